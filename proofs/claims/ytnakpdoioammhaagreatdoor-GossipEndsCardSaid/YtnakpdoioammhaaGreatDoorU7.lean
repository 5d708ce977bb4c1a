/-
 From a law's contract to its row: what arguments read as, as shadow data.
-/
import Derived.Test.YtnakpdoioammhaaGreatDoorU6
import Derived.ProofKit
import Derived.OpenShut
import Derived.Carry
import Derived.ShutString
set_option linter.unusedSimpArgs false
set_option linter.unusedSectionVars false
set_option linter.unusedVariables false
namespace Go.Sl
open Go.RowKit Go.ChangeShapes Go.WideShapes
def uK (P:Program):Nat→List Field→Option Nat
 | o,[]=>some o
 | o,f::fs=>if f.offset=o then uK P (o+P.cellsOf f.type) fs else none
def Fit (P:Program):Nat→TypeId→List DV→Prop
 | 0,_,_=>False
 | d+1,t,ds=>match P.underlying t with
  | some .bool=>∃ b,ds=[.bool b]
  | some (.int k)=>∃ n,ds=[.int k n]∧(Lit.int k n).wf=true
  | some (.struct fs)=>ds.length=P.cellsOf t∧∀ f∈fs.toList,Fit P d f.type ((ds.drop f.offset).take (P.cellsOf f.type))
  | some (.array n e)=>ds.length=P.cellsOf t∧∀ i,i<n→Fit P d e ((ds.drop (i*P.cellsOf e)).take (P.cellsOf e))
  | some (.slice e)=>ds=[.aY]∨∃ n cs,ds=[.sl n cs]∧n≤9223372036854775807∧cs.length=n*P.cellsOf e∧∀ i,i<n→Fit P d e ((cs.drop (i*P.cellsOf e)).take (P.cellsOf e))
  | _=>False
def gG (P:Program):Nat→TypeId→Bool
 | 0,_=>false
 | d+1,t=>match P.underlying t with
  | some .bool=>P.cellsOf t == 1
  | some (.int _)=>P.cellsOf t == 1
  | some (.struct fs)=>(uK P 0 fs.toList == some (P.cellsOf t)) && fs.toList.all fun f=>gG P d f.type
  | some (.array n e)=>(P.cellsOf t == n*P.cellsOf e) && gG P d e
  | some (.slice e)=>(P.cellsOf t == 1) && gG P d e && decide (0<P.cellsOf e) && decide (0<P.bytesOf e)
  | _=>false
def gW (w:World):Mem:=fun b o=>w.cell? ⟨b,o,none⟩
def Cells (M:Mem):List Value→List DV→Prop
 | [],[]=>True
 | v::vs,d::ds=>bT M d v∧Cells M vs ds
 | _,_=>False
theorem Cells.length {M:Mem}:∀ {vs:List Value} {ds:List DV},Cells M vs ds→vs.length=ds.length
 | [],[],_=>rfl
 | v::vs,d::ds,h=>by simp only [Cells] at h;simp [h.2.length]
 | [],d::ds,h=>by simp [Cells] at h
 | v::vs,[],h=>by simp [Cells] at h
theorem Cells.append {M:Mem}:∀ {vs us:List Value} {ds es:List DV},Cells M vs ds→Cells M us es→Cells M (vs++us) (ds++es)
 | [],us,[],es,_,h=>by simpa using h
 | v::vs,us,d::ds,es,h,k=>by simp only [Cells] at h;simp only [List.cons_append,Cells];exact ⟨h.1,h.2.append k⟩
 | [],us,d::ds,es,h,_=>by simp [Cells] at h
 | v::vs,us,[],es,h,_=>by simp [Cells] at h
theorem Cells.Iu {M:Mem}{p:Nat→Prop}{μ:Nat→Nm}:∀ {vs:List Value} {ds:List DV},Cells M vs ds→aQ p μ M (ds.map .d) vs
 | [],[],_=>aQ.aX.2 rfl
 | v::vs,d::ds,h=>by simp only [Cells] at h;exact aQ.aI.2 ⟨v,vs,rfl,Rp.cu.2 h.1,h.2.Iu⟩
 | [],d::ds,h=>by simp [Cells] at h
 | v::vs,[],h=>by simp [Cells] at h
theorem Cells.G2 {w:World}{b:Nat}:∀ {vs:List Value} {ds:List DV} (q:Nat),Cells (gW w) vs ds→(∀ (i:Nat) (v:Value),vs[i]? =some v→w.cell? ⟨b,q+i,none⟩=some v)→cD (gW w) b q ds
 | [],[],q,_,_=>by simp [cD]
 | v::vs,d::ds,q,h,hc=>by
  simp only [Cells] at h
  simp only [cD]
  refine ⟨⟨v,by simpa [gW] using hc 0 v rfl,h.1⟩,Cells.G2 (q+1) h.2 fun i u hi=> ?_⟩
  have:=hc (i+1) u (by simpa using hi)
  rwa [show q+(i+1)=q+1+i by omega] at this
 | [],d::ds,q,h,_=>by simp [Cells] at h
 | v::vs,[],q,h,_=>by simp [Cells] at h
section
variable {H:Type} {enc:TypeId×Value→H} {P:Program} {w:World} {sp:Nat→Bool} {held:Bool}
theorem sJ:∀ {d:Nat} {t:TypeId} {ds:List DV},gG P d t=true→Fit P d t ds→ds.length=P.cellsOf t
 | 0,t,ds,h,_=>by simp [gG] at h
 | d +1,t,ds,h,hf=>by
  simp only [gG] at h
  simp only [Fit] at hf
  split at h
  ·rename_i hu;rw [hu] at hf;obtain ⟨b,rfl⟩:=hf;simp at h;simp [h]
  ·rename_i hu;rw [hu] at hf;obtain ⟨b,rfl,_⟩:=hf;simp at h;simp [h]
  ·rename_i hu;rw [hu] at hf;exact hf.1
  ·rename_i hu;rw [hu] at hf;exact hf.1
  ·rename_i hu;rw [hu] at hf
   simp at h
   rcases hf with rfl | ⟨n,cs,rfl,_⟩ <;> simp [h.1.1.1]
  ·cases h
theorem xF:∀ {fs:List Field} {o n:Nat},uK P o fs=some n→o≤n
 | [],o,n,h=>by simp [uK] at h;omega
 | f::fs,o,n,h=>by
  simp only [uK] at h
  split at h
  ·have:=xF h;omega
  ·cases h
mutual
def DV.small (B:Nat):DV→Prop
 | .sl n cs=>n≤B∧dM B cs
 | _=>True
def dM (B:Nat):List DV→Prop
 | []=>True
 | c::cs=>c.small B∧dM B cs
end
theorem dM.append {B:Nat}:∀ {cs ds:List DV},dM B cs→dM B ds→dM B (cs++ds)
 | [],_,_,h=>h
 | _::_,_,h,k=>by
  simp only [List.cons_append,dM] at h ⊢
  exact ⟨h.1,h.2.append k⟩
theorem qq {B:Nat}:∀ {cs:List DV},dM B cs↔∀ c,c∈cs→c.small B
 | []=>by simp [dM]
 | c::cs=>by simp [dM,qq (cs:=cs)]
def wq (P:Program)(B:Nat)(t:TypeId)(y:DataW H):Prop:=∀ n,n∈y.weights P t→n≤B
def Sm (P:Program)(t:TypeId)(ds:List DV)(y:DataW H):Prop:=∀ (B:Nat),wq P B t y→dM B ds
theorem iM {P:Program}{e:TypeId}{n:Nat}:∀ {xs:List (DataW H)} {x:DataW H},x∈xs→n∈x.weights P e→n∈DataW.weightsAll P e xs
 | [],_,h,_=>by cases h
 | y::ys,x,h,hn=>by
  simp only [DataW.weightsAll,List.mem_append]
  rcases List.mem_cons.1 h with rfl | h
  ·exact .inl hn
  ·exact .inr (iM h hn)
theorem kP {P:Program}{n:Nat}:∀ {ts:List TypeId} {xs:List (DataW H)} {j:Nat} {t:TypeId} {x:DataW H},ts[j]? =some t→xs[j]? =some x→n∈x.weights P t→n∈DataW.weightsEach P ts xs
 | t0::ts,x0::xs,0,t,x,ht,hx,hn=>by
  simp at ht hx;subst ht;subst hx
  simp only [DataW.weightsEach,List.mem_append];exact .inl hn
 | t0::ts,x0::xs,j+1,t,x,ht,hx,hn=>by
  simp at ht hx
  simp only [DataW.weightsEach,List.mem_append];exact .inr (kP ht hx hn)
 | [],_,_,_,_,ht,_,_=>by simp at ht
 | _::_,[],_,_,_,_,hx,_=>by simp at hx
theorem wq.slice {P:Program}{B:Nat}{t e:TypeId}{es sp:List (DataW H)}(hu:P.underlying t=some (.slice e))(h:wq P B t (.slice es sp)):(0<P.bytesOf e→es.length≤B)∧∀ x,x∈es→wq P B e x:=by
 constructor
 ·intro hp
  have:=h ((es.length+sp.length)*P.bytesOf e) (by simp [DataW.weights,hu])
  have h2:es.length*1≤(es.length+sp.length)*P.bytesOf e:=Nat.mul_le_mul (by omega) hp
  omega
 ·intro x hx n hn
  exact h n (by simp only [DataW.weights,hu,List.mem_cons,List.mem_append];exact .inr (.inl (iM hx hn)))
theorem wq.struct {P:Program}{B:Nat}{t:TypeId}{fs:Array Field}{xs:List (DataW H)}(hu:P.underlying t=some (.struct fs))(h:wq P B t (.agg xs)){i:Nat}{f:Field}{x:DataW H}(hf:fs.toList[i]? =some f)(hx:xs[i]? =some x):wq P B f.type x:=fun n hn=>
 h n (by simp only [DataW.weights,hu];exact kP (j:=i) (by rw [List.getElem?_map,hf];rfl) hx hn)
theorem wq.array {P:Program}{B:Nat}{t e:TypeId}{k:Nat}{xs:List (DataW H)}(hu:P.underlying t=some (.array k e))(h:wq P B t (.agg xs)){x:DataW H}(hx:x∈xs):wq P B e x:=fun n hn=>
 h n (by simp only [DataW.weights,hu];exact iM hx hn)
theorem qt (d fuel:Nat)(cs:List Value)(Q:Field→DataW H→Prop)(part:∀ f:Field,gG P d f.type=true→∀ x,DataW.trod enc P w 0 sp held fuel f.type ((cs.drop f.offset).take (P.cellsOf f.type))=some x→
   ∃ ds,Fit P d f.type ds∧Cells (gW w) ((cs.drop f.offset).take (P.cellsOf f.type)) ds∧Sm P f.type ds x.1):
  ∀ (fs:List Field) (o n:Nat),uK P o fs=some n→n≤cs.length→(∀ f∈fs,gG P d f.type=true∧∃ x,DataW.trod enc P w 0 sp held fuel f.type ((cs.drop f.offset).take (P.cellsOf f.type))=some x∧Q f x.1)→
   ∃ ds,ds.length=n - o∧Cells (gW w) ((cs.drop o).take (n - o)) ds∧(∀ f∈fs,o≤f.offset∧Fit P d f.type ((ds.drop (f.offset - o)).take (P.cellsOf f.type)))∧∀ (B:Nat),(∀ f x,Q f x→wq P B f.type x)→dM B ds
 | [],o,n,h,_,_=>by
  simp [uK] at h
  subst h
  exact ⟨[],by simp,by simp [Cells],by simp,fun _ _=>trivial⟩
 | f ::fs,o,n,h,hn,hf=>by
  simp only [uK] at h
  split at h <;> first | (cases h;done) | skip
  rename_i ho
  have hle:=xF h
  obtain ⟨ds2,l2,c2,f2,s2⟩:=qt d fuel cs Q part fs _ n h hn fun g hg=>hf g (by simp [hg])
  obtain ⟨x1,hx1,hq1⟩:=(hf f (by simp)).2
  obtain ⟨ds1,f1,c1,s1⟩:=part f (hf f (by simp)).1 x1 hx1
  have l1:=sJ (hf f (by simp)).1 f1
  refine ⟨ds1++ds2,by simp [l1,l2];omega,?_,?_,fun B hq=>(s1 B (hq _ _ hq1)).append (s2 B hq)⟩
  ·have:=c1.append c2
   rw [ho] at this
   have e:(cs.drop o).take (n - o)=(cs.drop o).take (P.cellsOf f.type)++(cs.drop (o+P.cellsOf f.type)).take (n - (o+P.cellsOf f.type)):=by
    rw [← List.drop_drop,show n - o=P.cellsOf f.type+(n - (o+P.cellsOf f.type)) by omega,List.take_add]
   rw [e];exact this
  ·intro g hg
   rcases List.mem_cons.1 hg with rfl | hg
   ·refine ⟨by omega,?_⟩
    rw [show g.offset - o=0 by omega,List.drop_zero,List.take_left' l1]
    exact f1
   ·obtain ⟨q1,q2⟩:=f2 g hg
    refine ⟨by omega,?_⟩
    rw [List.drop_append,List.drop_eq_nil_of_le (by omega),List.nil_append,l1,show g.offset - o - P.cellsOf f.type=g.offset - (o+P.cellsOf f.type) by omega]
    exact q2
theorem oe (d:Nat)(e:TypeId)(he:gG P d e=true)(cell:Nat→List Value)(Q:DataW H→Prop):∀ (n k:Nat),(∀ i,i<n→∃ ds,Fit P d e ds∧Cells (gW w) (cell (k+i)) ds∧∃ x,Q x∧Sm P e ds x)→
  ∃ ds,ds.length=n*P.cellsOf e∧Cells (gW w) ((List.range' k n).flatMap cell) ds∧(∀ i,i<n→Fit P d e ((ds.drop (i*P.cellsOf e)).take (P.cellsOf e)))∧∀ (B:Nat),(∀ x,Q x→wq P B e x)→dM B ds
 | 0,k,_=>⟨[],by simp,by simp [Cells],by omega,fun _ _=>trivial⟩
 | n + 1,k,h=>by
  obtain ⟨ds1,f1,c1,x1,hq1,s1⟩:=h 0 (by omega)
  have l1:=sJ he f1
  obtain ⟨ds2,l2,c2,f2,s2⟩:=oe d e he cell Q n (k+1) fun i hi=>by
   have:=h (i+1) (by omega)
   rwa [show k+(i+1)=k+1+i by omega] at this
  refine ⟨ds1++ds2,by simp [l1,l2,Nat.add_mul];omega,?_,fun i hi=> ?_,fun B hq=>(s1 B (hq _ hq1)).append (s2 B hq)⟩
  ·rw [List.range'_succ,List.flatMap_cons]
   exact c1.append c2
  ·cases i with
   | zero=>simp [List.take_left' l1];exact f1
   | succ i=>
    rw [Nat.add_mul,Nat.one_mul,Nat.add_comm,← List.drop_drop,List.drop_left' l1]
    exact f2 i (by omega)
theorem er {b o n:Nat}{base:Nat}{cs:List Value}(h:w.cells? base ⟨b,o,none⟩ n=some cs):cs.length=n∧∀ (i:Nat) (v:Value),cs[i]? =some v→w.cell? ⟨b,o+i,none⟩=some v:=by
 obtain ⟨_,h1,h2⟩:=World.cells?_some h
 refine ⟨h1,fun i v hi=> ?_⟩
 have hlt:i<n:=by
  have:=(List.getElem?_eq_some_iff.1 hi).1;omega
 have:=h2 i hlt
 rw [dy] at this
 rw [this];exact hi
theorem Az : ∀ (d fuel:Nat) (t:TypeId) (cs:List Value) (x:DataW H×List MemPlace),gG P d t=true→DataW.trod enc P w 0 sp held fuel t cs=some x→∃ ds,Fit P d t ds∧Cells (gW w) cs ds∧Sm P t ds x.1:=by
  intro d
  induction d with
  | zero=>intro fuel t cs x h;simp [gG] at h
  | succ d ih =>
    intro fuel t cs x h hx
    simp only [gG] at h
    simp only [Fit]
    split at h
    · rename_i hu
      (try rw [hu])
      obtain ⟨b,rfl,_⟩:=DataW.trod_bool hu hx
      exact ⟨[.bool b],⟨b,rfl⟩,by simp [Cells,bT],fun _ _=>by simp [dM,DV.small]⟩
    · rename_i k hu
      (try rw [hu])
      obtain ⟨n,rfl,_,hw⟩:=DataW.trod_int hu hx
      exact ⟨[.int k n],⟨n,rfl,hw⟩,by simp [Cells,bT],fun _ _=>by simp [dM,DV.small]⟩
    · rename_i fs hu
      (try rw [hu])
      simp only [Bool.and_eq_true,beq_iff_eq,List.all_eq_true] at h
      obtain ⟨xs,n,hn,hxe,hl,hxl,hf⟩:=DataW.trod_struct hu hx
      obtain ⟨ds,l1,c1,f1,s1⟩:=qt d n cs (fun f x=>∃ i,fs.toList[i]? =some f∧(xs.map (·.1))[i]? =some x) (fun f hft y hy=>ih n f.type _ y hft hy) fs.toList 0 (P.cellsOf t) h.1 (by omega) fun f hf'=>by
        refine ⟨h.2 f hf',?_⟩
        obtain ⟨i,hi,e⟩:=List.getElem_of_mem hf'
        have hfi:fs[i]? =some f:=by
          have hi':i<fs.size:=by simpa using hi
          rw [Array.getElem?_eq_getElem hi'];simpa using e
        have:=hf i f hfi
        have hix:i<xs.length:=by rw [hxl];simpa using hi
        exact ⟨_,this.trans (List.getElem?_eq_getElem hix),i,by rw [Array.getElem?_toList];exact hfi,by rw [List.getElem?_map,List.getElem?_eq_getElem hix];rfl⟩
      refine ⟨ds,⟨by simpa using l1,fun f hf'=>by simpa using (f1 f hf').2⟩,?_,fun B hq=>s1 B fun f x ⟨i,h1,h2⟩=>wq.struct hu (by rw [hxe] at hq;exact hq) h1 h2⟩
      rw [List.drop_zero,Nat.sub_zero,List.take_of_length_le (by omega)] at c1
      exact c1
    · rename_i n e hu
      (try rw [hu])
      simp only [Bool.and_eq_true,beq_iff_eq] at h
      obtain ⟨xs,m,hm,hxe,hl,hxl,hf⟩:=DataW.trod_array hu hx
      obtain ⟨ds,l1,c1,f1,s1⟩:=oe d e h.2 (fun i=>(cs.drop (i*P.cellsOf e)).take (P.cellsOf e)) (fun x=>x∈xs.map (·.1)) n 0 fun i hi=>by
        have:=hf i hi
        have hix:i<xs.length:=by omega
        rw [Nat.zero_add]
        obtain ⟨ds,a1,a2,a3⟩:=ih m e _ _ h.2 (this.trans (List.getElem?_eq_getElem hix))
        exact ⟨ds,a1,a2,_,List.mem_map.2 ⟨_,List.getElem_mem hix,rfl⟩,a3⟩
      have hfl:∀ (n k:Nat) (cs:List Value),(k+n)*P.cellsOf e≤cs.length→(List.range' k n).flatMap (fun i=>(cs.drop (i*P.cellsOf e)).take (P.cellsOf e))=(cs.drop (k*P.cellsOf e)).take (n*P.cellsOf e):=by
        intro n
        induction n with
        | zero=>intro k cs _;simp
        | succ n ihn=>
          intro k cs hk
          rw [List.range'_succ,List.flatMap_cons,ihn (k+1) cs (by rwa [show k+1+n=k+(n+1) by omega])]
          rw [show (n+1)*P.cellsOf e=P.cellsOf e+n*P.cellsOf e by rw [Nat.add_mul];omega,List.take_add,List.drop_drop]
          rw [show k*P.cellsOf e+P.cellsOf e=(k+1)*P.cellsOf e by rw [Nat.add_mul];omega]
      refine ⟨ds,⟨by rw [l1,h.1],f1⟩,?_,fun B hq=>s1 B fun x hx'=>wq.array hu (by rw [hxe] at hq;exact hq) hx'⟩
      rw [hfl n 0 cs (by rw [hl,h.1];simp)] at c1
      rw [Nat.zero_mul,List.drop_zero,List.take_of_length_le (by rw [hl,h.1];exact Nat.le_refl _)] at c1
      exact c1
    · rename_i e hu
      (try rw [hu])
      simp only [Bool.and_eq_true,beq_iff_eq,decide_eq_true_eq] at h
      rcases DataW.trod_slice hu hx with ⟨rfl,_⟩ | ⟨a,len,cap,elems,rest,n,hn,rfl,hxe,_,hlc,hcm,hel,hf,_⟩
      · exact ⟨[.aY],.inl rfl,by simp [Cells,bT],fun _ _=>by simp [dM,DV.small]⟩
      · have hspot:0<len→a.spot=none:=by
          intro hpos
          have:=hf 0 hpos
          rw [show elems[0]? =some (elems[0]'(by omega)) from List.getElem?_eq_getElem (by omega)] at this
          obtain ⟨c0,h0,_⟩:=Option.bind_eq_some_iff.1 this
          obtain ⟨_,h1,h2⟩:=World.cells?_some h0
          have h3:=h2 0 h.1.2
          simp only [Nat.zero_mul] at h3
          have e0:(a.add 0).add 0=a:=by simp [Addr.add]
          rw [e0] at h3
          have hsome:c0[0]? =some (c0[0]'(by omega)):=List.getElem?_eq_getElem (by omega)
          rw [hsome] at h3
          unfold World.cell? at h3
          split at h3
          · split at h3
            · cases h3
            · rename_i hs;simpa using hs
          · cases h3
        have hA:0<len→a=⟨a.block,a.off,none⟩:=fun hpos=>by
          have:=hspot hpos
          obtain ⟨b,o,s⟩:=a
          simp at this
          subst this;rfl
        have hcell:∀ i,i<len→∃ c,w.cells? 0 (a.add (i*P.cellsOf e)) (P.cellsOf e)=some c∧∃ ds,Fit P d e ds∧Cells (gW w) c ds∧∃ x,x∈elems.map (·.1)∧Sm P e ds x:=by
          intro i hi
          have:=hf i hi
          rw [List.getElem?_eq_getElem (show i<elems.length by omega)] at this
          obtain ⟨c,h0,h1⟩:=Option.bind_eq_some_iff.1 this
          obtain ⟨ds,a1,a2,a3⟩:=ih n e c _ h.1.1.2 h1
          exact ⟨c,h0,ds,a1,a2,_,List.mem_map.2 ⟨_,List.getElem_mem (by omega),rfl⟩,a3⟩
        let cell:Nat→List Value:=fun i=>((w.cells? 0 (a.add (i*P.cellsOf e)) (P.cellsOf e)).getD [])
        have hcl:∀ i,i<len→w.cells? 0 (a.add (i*P.cellsOf e)) (P.cellsOf e)=some (cell i):=fun i hi=>by
          obtain ⟨c,h0,_⟩:=hcell i hi
          simp only [cell];rw [h0];rfl
        obtain ⟨ds,l1,c1,f1,s1⟩:=oe d e h.1.1.2 cell (fun x=>x∈elems.map (·.1)) len 0 fun i hi=>by
          obtain ⟨c,h0,h1⟩:=hcell i hi
          rw [Nat.zero_add]
          simp only [cell];rw [h0];exact h1
        refine ⟨[.sl len ds],.inr ⟨len,ds,rfl,by unfold maxLen at hcm;omega,l1,f1⟩,?_,fun B hq=> ?_⟩
        rotate_left
        · rw [hxe] at hq
          simp only [dM,DV.small,and_true]
          obtain ⟨g1,g2⟩:=wq.slice hu hq
          have:=g1 h.2
          rw [List.length_map,hel] at this
          exact ⟨this,s1 B fun x hx'=>g2 x hx'⟩
        simp only [Cells,bT,and_true]
        refine ⟨some a,cap,rfl,hlc,fun h0=> ?_,fun hpos=>⟨a.block,a.off,by rw [← hA hpos],?_⟩⟩
        · subst h0;simp at l1;exact l1
        · refine Cells.G2 a.off c1 fun i v hi=> ?_
          have key:∀ (n k i:Nat) (v:Value),k+n≤len→((List.range' k n).flatMap cell)[i]? =some v→w.cell? ⟨a.block,a.off+k*P.cellsOf e+i,none⟩=some v:=by
            intro n
            induction n with
            | zero=>intro k i v _ h;simp at h
            | succ n ihn=>
              intro k i v hk hv
              rw [List.range'_succ,List.flatMap_cons] at hv
              have hck:=hcl k (by omega)
              rw [hA (by omega),dy] at hck
              obtain ⟨g1,g2⟩:=er hck
              by_cases hlt:i<(cell k).length
              · rw [List.getElem?_append_left hlt] at hv
                exact g2 i v hv
              · rw [List.getElem?_append_right (by omega),g1] at hv
                have:=ihn (k+1) (i - P.cellsOf e) v (by omega) hv
                rwa [show a.off+(k+1)*P.cellsOf e+(i - P.cellsOf e)=a.off+k*P.cellsOf e+i by rw [Nat.add_mul];omega] at this
          have:=key len 0 i v (by omega) hi
          simpa using this
    · cases h
def jm (P:Program)(t:TypeId)(ds:List DV):SV:=
 match dh P t with
 | some (some _)=> .agg (ds.map .d)
 | _=> .d (ds.headD .uo)
def og (P:Program)(d:Nat):List TypeId→List (List DV)→Prop
 | [],[]=>True
 | t::ts,x::xs=>Fit P d t x∧og P d ts xs
 | _,_=>False
def qu (P:Program):List TypeId→List (List DV)→List SV
 | t::ts,x::xs=>jm P t x::qu P ts xs
 | _,_=>[]
def mK (P:Program)(d:Nat)(ts:List TypeId):Bool:=ts.all fun t=>gG P d t && (P.readableRec t && decide (t<P.types.size))
theorem C8 {t:TypeId}{v:Value}{d:Nat}{x:DataW H}{ps:List MemPlace}{r:Reach}{b0:Nat}(hf:gG P d t=true)(hv:Value.okWide P w r b0 t v)(h:DataW.Trod enc P w 0 sp held t v x ps)(p:Nat→Prop)(μ:Nat→Nm):
  ∃ ds,Fit P d t ds∧Rp p μ (gW w) (jm P t ds) v∧Sm P t ds x:=by
 obtain ⟨fuel,hx⟩:=h
 obtain ⟨ds,h1,h2,h3⟩:=Az d fuel t _ _ hf hx
 refine ⟨ds,h1,?_,h3⟩
 have hinfo:∃ i,P.info? t=some i:=by
  cases hi:P.info? t with
  | some i=>exact ⟨i,rfl⟩
  | none=>
   exfalso
   cases d with
   | zero=>simp [gG] at hf
   | succ d=>simp [gG,Program.underlying,hi] at hf
 obtain ⟨i,hi⟩:=hinfo
 have one:∀ (hs:dh P t=some none) (G3:v.cells.toList=[v]),Rp p μ (gW w) (jm P t ds) v:=by
  intro hs G3
  rw [G3] at h2
  match ds,h2 with
  | [y],h2=>
   simp only [Cells] at h2
   simp only [jm,hs,List.headD_cons]
   exact Rp.cu.2 h2.1
  | [],h2=>simp [Cells] at h2
  | y::z::r,h2=>simp [Cells] at h2
 have agg:∀ (n:Nat) (hs:dh P t=some (some n)) (cs:Array Value) (G3:v= .agg cs),Rp p μ (gW w) (jm P t ds) v:=by
  intro n hs cs G3
  subst G3
  simp only [jm,hs]
  exact Rp.c8.2 ⟨cs,rfl,Cells.Iu h2⟩
 cases d with
 | zero=>simp [gG] at hf
 | succ d=>
  simp only [gG] at hf
  split at hf
  ·rename_i hu
   obtain ⟨b,rfl⟩:=okWide_bool hu hv
   exact one (by simp [dh,hu,hi]) rfl
  ·rename_i hu
   obtain ⟨b,rfl⟩:=okWide_int hu hv
   exact one (by simp [dh,hu,hi]) rfl
  ·rename_i fs hu
   obtain ⟨cs,rfl,_⟩:=okWide_struct hu hv
   exact agg i.size (by simp [dh,hu,hi]) cs rfl
  ·rename_i n e hu
   unfold Value.okWide at hv
   rw [hu] at hv
   obtain ⟨cs,rfl,_⟩:=hv
   exact agg i.size (by simp [dh,hu,hi]) cs rfl
  ·rename_i e hu
   obtain ⟨a,len,cap,rfl⟩:=okWide_slice hu hv
   exact one (by simp [dh,hu,hi]) rfl
  ·cases hf
theorem uL {d:Nat}{r:Reach}{b0:Nat}(p:Nat→Prop)(μ:Nat→Nm):∀ (ts:List TypeId) (vs:List Value) (xs:List (DataW H)) (ps:List MemPlace),mK P d ts=true→DataW.TrodAll enc P w 0 sp held ts vs xs ps→
  (∀ (j:Nat) t v,ts[j]? =some t→vs[j]? =some v→Value.okWide P w r b0 t v)→∃ rP,og P d ts rP∧aQ p μ (gW w) (qu P ts rP) vs∧xs.length=ts.length∧∀ (B:Nat),(∀ n,n∈DataW.weightsEach P ts xs→n≤B)→∀ ds,ds∈rP→dM B ds
 | [],vs,xs,ps,_,h,_=>by
  obtain ⟨rfl,rfl,_⟩:=trodAll_nil h
  exact ⟨[],trivial,aQ.aX.2 rfl,rfl,fun _ _ _ h=>by cases h⟩
 | t::ts,vs,xs,ps,hf,h,hv=>by
  obtain ⟨v,vs',x,xs',p1,p2,rfl,rfl,rfl,h1,h2⟩:=trodAll_cons h
  simp only [mK,List.all_cons,Bool.and_eq_true] at hf
  obtain ⟨ds,a1,a2,a3⟩:=C8 (P:=P) hf.1.1 (hv 0 t v rfl rfl) h1 p μ
  obtain ⟨rP,b1,b2,b3,b4⟩:=uL p μ ts vs' xs' p2 (by simpa [mK] using hf.2) h2 fun j t' v' ht hv'=>hv (j+1) t' v' (by simpa using ht) (by simpa using hv')
  refine ⟨ds::rP,⟨a1,b1⟩,aQ.aI.2 ⟨v,vs',rfl,a2,b2⟩,by simp [b3],fun B hq ds' hd=> ?_⟩
  rcases List.mem_cons.1 hd with rfl | hd
  ·exact a3 B fun n hn=>hq n (by simp only [DataW.weightsEach,List.mem_append];exact .inl hn)
  ·exact b4 B (fun n hn=>hq n (by simp only [DataW.weightsEach,List.mem_append];exact .inr hn)) ds' hd
theorem mw {d:Nat}(hl:laidOutB P=true){W W':World}{sp':Nat→Bool}:∀ (ts:List TypeId) (vs:List Value) (xs:List (DataW H)) (ps:List MemPlace),mK P d ts=true→DataW.TrodAll enc P W 0 (fun _=>true) true ts vs xs ps→
  (∀ x∈ps,W.sameAt W' x)→(∀ x∈ps,sp' x.block=true)→DataW.TrodAll enc P W' 0 sp' true ts vs xs ps
 | [],vs,xs,ps,_,h,_,_=>by
  obtain ⟨rfl,rfl,rfl⟩:=trodAll_nil h
  exact trodAll_mk0
 | t ::ts,vs,xs,ps,hf,h,hs,hp=>by
  obtain ⟨v,vs',x,xs',p1,p2,rfl,rfl,rfl,h1,h2⟩:=trodAll_cons h
  simp only [mK,List.all_cons,Bool.and_eq_true,decide_eq_true_eq] at hf
  exact trodAll_cons_mk (WideElems.Trod_stays hl hf.1.2.1 hf.1.2.2 h1 (fun q hq=>hs q (by simp [hq])) (fun q hq=>hp q (by simp [hq])))
   (mw hl ts vs' xs' p2 (by simpa [mK] using hf.2) h2 (fun q hq=>hs q (by simp [hq])) (fun q hq=>hp q (by simp [hq])))
theorem rS {f:Func}{s:ChangeSpec}{apart fresh handsOn again:Bool}{W W':World}{args:Array Value}{v:Value}{ds gs:List (DataW H)}{before pa pv:List MemPlace}
  (hW:DataW.Whole enc P f.params.toList s.vars apart W args.toList ds gs before)
  (hres:∀ (b:Nat) (sp:Nat→Bool) (hd:Bool),DataW.TrodAll enc P W' b sp hd f.resultTypes.toList (v.resultList f.resultTypes.size) (s.fn H (ds++gs)).results [])
  (hargs:∀ sp:Nat→Bool,(∀ p∈before,sp p.block=true)→DataW.TrodAll enc P W' 0 sp true f.params.toList args.toList (s.fn H (ds++gs)).args pa)
  (hvars:∀ sp:Nat→Bool,(∀ p∈before,sp p.block=true)→DataW.TrodVars enc P W' sp s.vars (s.fn H (ds++gs)).vars pv)
  (hps:before=pa++pv) (hb:Below W.heap.size W W')
  (hok:∀ (j:Nat) (t:TypeId) (r:Value),f.resultTypes[j]? =some t→(v.resultList f.resultTypes.size)[j]? =some r→Value.okWide P W' .any 0 t r):
  s.post enc P f apart fresh handsOn again W args v W':=by
 have hlt:∀ p∈before,p.block<W.heap.size:=fun p hp=>hW.lt p hp
 have hold:∀ p∈before,(fun b=>decide (b<W.heap.size)) p.block=true:=fun p hp=>by simpa using hlt p hp
 refine ⟨ds,gs,before,[],pa,pv,hW,hres _ _ _,hargs _ hold,hvars _ hold,World.keptBut_mono (fun p hp=>⟨hp,?_⟩) (hb.frame (· ∈before)),fun _=> ?_⟩
 ·rw [hps,List.mem_append] at hp
  exact Or.inr hp
 ·obtain ⟨_,_,_,_,_,hz,hn⟩:=hW
  refine ⟨hok,_,_,([]++pa)++pv,⟨[]++pa,pv,trodAll_append (hargs _ (fun _ _=>rfl)) (hres _ _ _),hvars _ (fun _ _=>rfl),rfl,?_,?_⟩,?_⟩
  ·intro b off hp
   have hin:MemPlace.cell b off∈before:=by rw [hps];simpa using hp
   rw [hb.frozen (hlt _ hin)]
   exact hz b off hin
  ·intro ha
   have:=hn ha
   rw [hps] at this
   simpa using this
  ·intro p hp _
   rw [hps]
   simpa using hp
theorem yB {f:FuncId}{fn:Func}{spec:ChangeSpec}{tb:TypeId}(d:Nat)(hl:laidOutB P=true)(hts:mK P d fn.params.toList=true)(hres:fn.resultTypes= #[tb])(htb:P.underlying tb=some .bool)(hvars:spec.vars=[])
  (hspec:∀ ds:List (DataW H),ds.length=fn.params.toList.length→(spec.fn H ds).results=[.lit (.bool true)]∧(spec.fn H ds).args=ds∧(spec.fn H ds).vars=[])
  (B:Nat)
  (HX:∀ rP,og P d fn.params.toList rP→(∀ ds,ds∈rP→dM B ds)→SB P f (qu P fn.params.toList rP) [] 0 0 fun r F=>r=bl true)
  (W:World) (base:Nat) (args:Array Value) (ds gs:List (DataW H)) (before:List MemPlace)
  (hval:∀ (j:Nat) t v,fn.params[j]? =some t→args[j]? =some v→Value.okWide P W .any base t v)
  (hW:DataW.Whole enc P fn.params.toList spec.vars false W args.toList ds gs before) (hG:mG (gW W)) (hB:∀ n,n∈DataW.weightsEach P fn.params.toList ds→n≤B):
  Calls P f args W fun e W'=>∃ v,e= .returned v∧spec.post enc P fn false true false false W args v W':=by
 have hW':=hW
 obtain ⟨p,q,hA,hV,rfl,hfz,hnd⟩:=hW
 rw [hvars] at hV
 obtain ⟨rfl,rfl⟩:=trodVars_none hV
 obtain ⟨rP,h1,h2,h3,h4⟩:=uL (P:=P) (d:=d) (fun n=>n<0) (fun _=>⟨0,0,true⟩) fn.params.toList args.toList ds p hts hA fun j t v ht hv=>hval j t v (by simpa using ht) (by simpa using hv)
 refine ((HX rP h1 (h4 B hB)).2.2.2 (fun _=>⟨0,0,true⟩) (gW W) W args h2 ⟨⟨fun b o v h=>h,hG⟩,fun n ob h=>by simp [bq] at h,fun n m h=>by simp [bq] at h⟩).mono ?_
 rintro e W' ⟨r,F',bh,M',u,rfl,rfl,_,_,hr,_,hE⟩
 have hu:u= .bool true:=by simpa [cG,bT] using hr
 subst hu
 have hb:Below W.heap.size W W':=⟨hE.os,hE.tape.1,hE.output,hE.size,fun b hb=>(hE.frame b hb fun n hn=>by simp [bq] at hn).1⟩
 obtain ⟨s1,s2,s3⟩:=hspec (ds++[]) (by simpa using h3)
 refine ⟨_,rfl,rS (pa:=p) (pv:=[]) hW' (fun b sp hd=> ?_) (fun sp hsp=> ?_) (fun sp hsp=> ?_) rfl hb ?_⟩
 ·rw [s1,hres]
  exact trodAll_cons_mk (shut_bool htb _) trodAll_mk0
 ·rw [s2]
  simp only [List.append_nil] at hsp ⊢
  exact mw hl _ _ _ _ hts hA (fun x hx=>hb.same (hW'.lt x (by simpa using hx))) hsp
 ·rw [hvars,s3]
  rfl
 ·exact ok_one hres rfl (okWide_bool_mk htb _)
end
end Go.Sl
namespace Go.Sl
open Go.RowKit
mutual
def SV.kW (n len:Nat)(ds:List DV):SV→SV
 | .gs m l=>if m=n then (if l=len then .d (.sl len ds) else .any) else .gs m l
 | .agg cs=> .agg (SV.tI n len ds cs)
 | .cW cs=> .cW (SV.tI n len ds cs)
 | s=>s
def SV.tI (n len:Nat)(ds:List DV):List SV→List SV
 | []=>[]
 | c::cs=>c.kW n len ds::SV.tI n len ds cs
end
def mL (n len:Nat)(ds:List DV)(env:List (Nat×SV)):List (Nat×SV):=env.map fun x=>(x.1,x.2.kW n len ds)
theorem gJ (n len:Nat)(ds:List DV):∀ (env:List (Nat×SV)) (t:Nat),(mL n len ds env).lookup t=(env.lookup t).map (SV.kW n len ds)
 | [],t=>rfl
 | (q,s)::env,t=>by
  simp only [mL,List.map_cons,List.lookup]
  cases t == q
  ·exact gJ n len ds env t
  ·rfl
mutual
theorem SV.lR {p:Nat→Prop}{μ:Nat→Nm}{M:Mem}{n len:Nat}{ds:List DV}(hg:∀ v,Rp p μ M (.gs n len) v→Rp p μ M (.d (.sl len ds)) v):∀ (s:SV) (v:Value),Rp p μ M s v→Rp p μ M (s.kW n len ds) v
 | .gs m l,v,h=>by
  simp only [SV.kW]
  split
  ·rename_i e;subst e
   split
   ·rename_i e;subst e
    exact hg v h
   ·exact Rp.any
  ·exact h
 | .agg cs,v,h=>by
  obtain ⟨vs,e,h1⟩:=Rp.c8.1 h
  simp only [SV.kW]
  exact Rp.c8.2 ⟨vs,e,SV.ni hg cs _ h1⟩
 | .cW cs,v,h=>by
  obtain ⟨vs,e,h1⟩:=Rp.dN.1 h
  simp only [SV.kW]
  exact Rp.dN.2 ⟨vs,e,SV.ni hg cs _ h1⟩
 | .d _,v,h=>h
 | .ptr _ _,v,h=>h
 | .vp _ _,v,h=>h
 | .bs _ _ _,v,h=>h
 | .mp _,v,h=>h
 | .it _,v,h=>h
 | .yl _,v,h=>h
 | .fn _ _ _,v,h=>h
 | .any,v,h=>h
theorem SV.ni {p:Nat→Prop}{μ:Nat→Nm}{M:Mem}{n len:Nat}{ds:List DV}(hg:∀ v,Rp p μ M (.gs n len) v→Rp p μ M (.d (.sl len ds)) v):∀ (s:List SV) (v:List Value),aQ p μ M s v→aQ p μ M (SV.tI n len ds s) v
 | [],v,h=>h
 | c::cs,v,h=>by
  obtain ⟨u,us,e,h1,h2⟩:=aQ.aI.1 h
  simp only [SV.tI]
  exact aQ.aI.2 ⟨u,us,e,SV.lR hg c u h1,SV.ni hg cs us h2⟩
end
theorem aQ.EI {p:Nat→Prop}{μ:Nat→Nm}{M:Mem}{ds:List DV}{vs:List Value}(h:aQ p μ M (ds.map .d) vs){i:Nat}{x:DV}(hi:ds[i]? =some x):∃ u,vs[i]? =some u∧bT M x u:=by
 obtain ⟨u,hu,hr⟩:=h.get (i:=i) (c:= .d x) (by simp [hi])
 exact ⟨u,hu,Rp.cu.1 hr⟩
section
variable {P:Program} {N k0:Nat} {st:St} {Q:Exit→St→Prop}
theorem ia.freeze {dg:Nat→Nm}{M0:Mem}{w0:World}{c0:Nat→Option Ob}{a:Act}{w:World}(n:Nat){e sz len:Nat}{cs:List SV}{ds:List DV}(hn:lk st.hp n=some (.arr e sz len cs))(hcs:cs=ds.map .d)
    (h:ia N dg M0 w0 c0 k0 st a w):ia N dg M0 w0 c0 k0 ⟨mL n len ds st.env,bL st.hp n,st.k⟩ a w:=by
  subst hcs
  obtain ⟨mq,hdf,hsz,μ,M,gi,hS,hE⟩:=h
  obtain ⟨hpn,bw,hMn⟩:=hS.obs n _ hn
  rcases bw with ⟨hdead,hl0,hds⟩ | ⟨hlive,vs,hb,nR,pR,hl3,hl4,hr⟩
  · have hd0:ds=[]:=by simpa using hds
    subst hd0;subst hl0
    have hg:∀ v,Rp (· <st.k) μ M (.gs n 0) v→Rp (· <st.k) μ M (.d (.sl 0 [])) v:=fun v hv=>by
      refine Rp.cu.2 ?_
      simp only [bT]
      obtain ⟨h,_⟩ | ⟨_,_,A,e1⟩:=hv.ji
      · rw [hdead] at h;cases h
      · exact ⟨A,0,e1,Nat.le_refl _,fun _=>trivial,fun h=>absurd h (Nat.lt_irrefl _)⟩
    have hsub:∀ m ob,lk (bL st.hp n) m=some ob→lk st.hp m=some ob:=fun m ob hm=>by
      rw [cU] at hm
      split at hm
      · cases hm
      · exact hm
    refine ⟨mq,hdf,hsz,μ,M,fun t s hs=> ?_,hS.sub hsub,hE.z7 fun m hm=> ?_⟩
    · rw [gJ] at hs
      obtain ⟨s',hs',rfl⟩:=Option.map_eq_some_iff.1 hs
      exact SV.lR hg s' _ (gi t s' hs')
    · obtain ⟨o1,ho1⟩:=Option.ne_none_iff_exists'.1 hm
      rw [hsub m o1 ho1];simp
  have hMn:=hMn hlive
  have hlen:ds.length=len*sz:=by simpa using nR
  let M':Mem:=fun b o=>if b=(μ n).blk then (if o<len*sz then vs[o]? else none) else M b o
  have hne:∀ b,b≠(μ n).blk→∀ o,M' b o=M b o:=fun b hb o=>by simp [M',hb]
  have hle:Mem.le M M':=fun b o v hv=>by
    have:b≠(μ n).blk:=fun e=>by rw [e,hMn] at hv;cases hv
    rw [hne b this];exact hv
  have hoth:∀ m,lk st.hp m≠none→m≠n→(μ m).live=true→(μ m).blk≠(μ n).blk:=fun m hm hmn lm e=>hmn (hS.inj m n hm (by rw [hn];simp) lm hlive e)
  have hsub:∀ m ob,lk (bL st.hp n) m=some ob→lk st.hp m=some ob∧m≠n:=fun m ob hm=>by
    rw [cU] at hm
    split at hm
    · cases hm
    · rename_i e;exact ⟨hm,e⟩
  have hg:∀ v,Rp (· <st.k) μ M' (.gs n len) v→Rp (· <st.k) μ M' (.d (.sl len ds)) v:=fun v hv=>by
    obtain ⟨_,e1⟩ | ⟨h,_⟩:=hv.ji
    rotate_left
    · rw [hlive] at h;cases h
    refine Rp.cu.2 ?_
    simp only [bT]
    refine ⟨_,_,e1,pR,fun h0=> ?_,fun _=>⟨_,_,rfl,cD.mk fun i c hi=> ?_⟩⟩
    · subst h0
      simp at hlen
      exact hlen
    · obtain ⟨u,hu,hru⟩:=hr.EI hi
      have hil:i<len*sz:=by rw [← hlen];exact (List.getElem?_eq_some_iff.1 hi).1
      refine ⟨u,?_,bT.mono hle _ _ hru⟩
      rw [List.getElem?_take_of_lt hil] at hu
      simp only [M',if_true,Nat.zero_add,hil]
      simpa using hu
  refine ⟨mq,hdf,hsz,μ,M',fun t s hs=> ?_,⟨⟨fun b o v hv=> ?_,hS.mem.jG.le hle⟩,fun m ob hm=> ?_,fun m m' hm hm' lm lm' e=> ?_⟩,⟨hE.old,Mem.le_trans hE.mem hle,fun b hb0 hf=> ?_,hE.size,fun m hm=> ?_,hE.os,hE.tape,hE.output⟩⟩
  · rw [gJ] at hs
    obtain ⟨s',hs',rfl⟩:=Option.map_eq_some_iff.1 hs
    exact SV.lR hg s' _ ((gi t s' hs').more (fun _ h=>h) (fun _ _=>rfl) hle)
  · by_cases hbn:b=(μ n).blk
    · subst hbn
      simp only [M',if_true] at hv
      split at hv
      · rw [cell_of hb];exact hv
      · cases hv
    · rw [hne b hbn] at hv
      exact hS.mem b o v hv
  · obtain ⟨hm1,hmn⟩:=hsub m ob hm
    obtain ⟨a1,a2,a3⟩:=hS.obs m ob hm1
    refine ⟨a1,a2.more (fun _ h=>h) (fun _ _=>rfl) hle fun _=>rfl,fun lm o=> ?_⟩
    rw [hne _ (hoth m (by rw [hm1];simp) hmn lm)]
    exact a3 lm o
  · obtain ⟨o1,ho1⟩:=Option.ne_none_iff_exists'.1 hm
    obtain ⟨o2,ho2⟩:=Option.ne_none_iff_exists'.1 hm'
    exact hS.inj m m' (by rw [(hsub m o1 ho1).1];simp) (by rw [(hsub m' o2 ho2).1];simp) lm lm' e
  · have hbn:b≠(μ n).blk:=fun e=>by
      rcases hE.names n (by rw [hn];simp) with ⟨_,hh⟩ | ⟨h,h'⟩
      · rcases hh hlive with h | ⟨m,hm,lm,e'⟩
        · omega
        · exact hf m hm lm (e'.trans e.symm)
      · rw [hE.old n h] at e hlive
        exact hf n h' hlive e.symm
    obtain ⟨f1,f2⟩:=hE.frame b hb0 hf
    exact ⟨f1,fun o=>by rw [hne b hbn];exact f2 o⟩
  · obtain ⟨o1,ho1⟩:=Option.ne_none_iff_exists'.1 hm
    exact hE.names m (by rw [(hsub m o1 ho1).1];simp)
theorem SW.freeze {s:cr}(n:Nat){e sz len:Nat}{cs:List SV}(ds:List DV)(hn:lk st.hp n=some (.arr e sz len cs))(hcs:cs=ds.map .d)(h:SW P N k0 s ⟨mL n len ds st.env,bL st.hp n,st.k⟩ Q):SW P N k0 s st Q:=
 fun c hc rd hrf dg M0 w0 c0 a w ga=>h c hc rd hrf dg M0 w0 c0 a w (ga.freeze n hn hcs)
theorem ia.kZ {dg:Nat→Nm}{M0:Mem}{w0:World}{c0:Nat→Option Ob}{a:Act}{w:World}(t:Nat)(e sz:Nat)(ht:st.env.lookup t=some (.d .aY))(h:ia N dg M0 w0 c0 k0 st a w):
    ia N dg M0 w0 c0 k0 ⟨(t,.gs st.k 0)::st.env,(st.k,.arr e sz 0 [])::st.hp,st.k+1⟩ a w:=by
  obtain ⟨mq,hdf,hsz,μ,M,gi,hS,hE⟩:=h
  have hmu:=uu (μ:=μ) (m:=⟨0,0,false⟩) (p:=(· <st.k)) (k:=st.k) (Nat.lt_irrefl _)
  have hup:∀ n,n<st.k→n<st.k+1:=fun n h=>by omega
  have hlt:∀ n ob,lk st.hp n=some ob→n<st.k:=fun n ob h=>(hS.obs n ob h).1
  refine ⟨by show k0≤st.k+1;omega,hdf,hsz,xw μ st.k ⟨0,0,false⟩,M,fun u s hs=> ?_,⟨hS.mem,fun n ob hn=> ?_,fun n m hn hm ln lm e=> ?_⟩,⟨fun n hn=> ?_,hE.mem,hE.frame,hE.size,fun n hn=> ?_,hE.os,hE.tape,hE.output⟩⟩
  · rw [ko] at hs
    split at hs
    · rename_i e1
      subst e1
      injection hs with hs
      subst hs
      have h1:=(gi t _ ht).rep
      simp only [cG,bT] at h1
      intro ν fQ
      simp only [cG]
      rw [fQ st.k (Nat.lt_succ_self _),bY]
      exact .inr ⟨rfl,trivial,none,h1⟩
    · exact (gi u s hs).more hup hmu (Mem.le_refl M)
  · rw [af] at hn
    split at hn
    · rename_i e1
      subst e1
      injection hn with hn
      subst hn
      rw [bY]
      exact ⟨Nat.lt_succ_self _,.inl ⟨rfl,rfl,rfl⟩,fun h=>by cases h⟩
    · obtain ⟨a1,a2,a3⟩:=hS.obs n ob hn
      rw [hmu n a1]
      exact ⟨hup n a1,a2.more hup hmu (Mem.le_refl M) fun _=>rfl,a3⟩
  · rw [af] at hn hm
    by_cases e1:n=st.k
    · subst e1;rw [bY] at ln;cases ln
    · by_cases e2:m=st.k
      · subst e2;rw [bY] at lm;cases lm
      · rw [if_neg e1] at hn
        rw [if_neg e2] at hm
        obtain ⟨o1,ho1⟩:=Option.ne_none_iff_exists'.1 hn
        obtain ⟨o2,ho2⟩:=Option.ne_none_iff_exists'.1 hm
        rw [hmu n (hlt n o1 ho1)] at e ln
        rw [hmu m (hlt m o2 ho2)] at e lm
        exact hS.inj n m hn hm ln lm e
  · simp only at hn
    by_cases e1:n=st.k
    · subst e1;omega
    · rw [eO _ _ _ e1];exact hE.old n (by omega)
  · rw [af] at hn
    by_cases e1:n=st.k
    · subst e1
      rw [bY]
      exact .inl ⟨⟨by omega,Nat.lt_succ_self _⟩,fun h=>by cases h⟩
    · rw [if_neg e1] at hn
      obtain ⟨o1,ho1⟩:=Option.ne_none_iff_exists'.1 hn
      rw [hmu n (hlt n o1 ho1)]
      rcases hE.names n hn with ⟨b1,b2⟩ | ⟨b1,b2⟩
      · exact .inl ⟨⟨b1.1,by have:=b1.2;show n<st.k+1;omega⟩,b2⟩
      · refine .inr ⟨fun h=> ?_,b2⟩
        have:n<st.k:=hlt n o1 ho1
        exact b1 ⟨h.1,this⟩
theorem SW.kZ {s:cr}(t:Nat)(e sz:Nat)(ht:st.env.lookup t=some (.d .aY))(h:SW P N k0 s ⟨(t,.gs st.k 0)::st.env,(st.k,.arr e sz 0 [])::st.hp,st.k+1⟩ Q):SW P N k0 s st Q:=
 fun c hc rd hrf dg M0 w0 c0 a w ga=>h c hc rd hrf dg M0 w0 c0 a w (ga.kZ t e sz ht)
theorem bT.jo {M:Mem}{v:Value}(h:bT M .aY v):bT M (.sl 0 []) v:=by
 simp only [bT] at h ⊢
 exact ⟨none,0,h,Nat.le_refl _,fun _=>trivial,fun h=>absurd h (Nat.lt_irrefl _)⟩
theorem SC.args {f:FuncId}{args args':List SV}{F:Hp}{k nk:Nat}{Q:SV→Hp→Prop}(ha:∀ (p:Nat→Prop) μ M vs,aQ p μ M args' vs→aQ p μ M args vs)(h:SC P f args F k nk Q):SC P f args' F k nk Q:=
 ⟨h.1,fun p μ M w vals h1 h2 h3=>h.2 p μ M w vals h1 (ha p μ M _ h2) h3⟩
end
theorem SV.sK {ρ:Nat→Nat}:∀ {l:List SV},SV.aF (fun n=>decide (n<0)) l=true→SV.aM ρ l=l
 | [],_=>rfl
 | c::cs,h=>by
  simp only [SV.aF,Bool.and_eq_true] at h
  simp only [SV.aM,SV.sH c h.1,SV.sK h.2]
def iA (ns:List Nat)(k:Nat)(i:Nat):Nat:=match ns[i]? with
 | some n=>n
 | none=>i - ns.length+k
theorem AA:∀ {h:Hp} {n:Nat} {ob:Ob},(n,ob)∈h→∃ iJ,lk h n=some iJ
 | [],n,ob,h=>by simp at h
 | (m,o)::h,n,ob,hm=>by
  rw [af]
  by_cases e:n=m
  ·exact ⟨o,by simp [e]⟩
  ·rw [if_neg e]
   rcases List.mem_cons.1 hm with h1 | h1
   ·injection h1 with h1 _;exact absurd h1 e
   ·exact AA h1
theorem SB.oW {P:Program}{f:FuncId}{args:List SV}{F F':Hp}{nk:Nat}{r:SV}(ns:List Nat)(h:SB P f args F ns.length nk fun r' F1=>r'=r∧F1=F')(hd:ns.Nodup)(hF:∀ i,i<ns.length→lk F i≠none)(k:Nat):
  bB P f (SV.aM (iA ns k) args) (F.aP (iA ns k)) k nk (r.aP (iA ns k)) (F'.aP (iA ns k)):=by
 have hlt:∀ i,i<ns.length→ns[i]? =some (iA ns k i):=fun i hi=>by simp [iA,hi]
 have:=SB.at h (iA ns k) k (fun n m hn hm e=> ?_) (fun n hn p μ M w vals _ hS=> ?_) (fun i hi=> ?_)
 ·refine this.mono ?_
  rintro r' F1 ⟨r0,F0,⟨rfl,rfl⟩,rfl,rfl⟩
  exact ⟨rfl,rfl⟩
 ·have h1:=hlt n hn
  have h2:=hlt m hm
  rw [e] at h1
  exact (List.getElem?_inj hn hd).1 (h1.trans h2.symm)
 ·obtain ⟨ob,ho⟩:=Option.ne_none_iff_exists'.1 (hF n hn)
  have hm:(iA ns k n,ob.aP (iA ns k))∈F.aP (iA ns k):=List.mem_map.2 ⟨(n,ob),mJ ho,rfl⟩
  obtain ⟨iJ,ho'⟩:=AA hm
  exact (hS.obs _ _ ho').1
 ·simp [iA];omega
theorem SB.new {P:Program}{f:FuncId}{args:List SV}{F':Hp}{nk:Nat}{r:SV}(h:SB P f args [] 0 nk fun r' F1=>r'=r∧F1=F')(k:Nat):
  bB P f args [] k nk (r.aP (iA [] k)) (F'.aP (iA [] k)):=by
 have:=SB.oW [] h (by simp) (fun i hi=>absurd hi (Nat.not_lt_zero i)) k
 rwa [SV.sK h.2.1] at this
@[simp] theorem G4 (h:Hp):HSub [] h↔True:=⟨fun _=>trivial,fun _=>HSub.nil h⟩
@[simp] theorem G5 (h:Hp) (n:Nat) (ob:Ob):HSub [(n,ob)] h↔lk h n=some ob:=by
 refine ⟨fun hs=>hs n ob (by simp [cq]),fun hs m iJ hm=> ?_⟩
 rw [cq] at hm
 split at hm
 ·rename_i e;subst e;simp at hm;subst hm;exact hs
 ·cases hm
def ag.zero:ag:=⟨0,0,0,0,0,0,0,0⟩
theorem ag.ak:[SV.d (.int .u32 0),.d (.int .u32 0),.d (.int .u32 0),.d (.int .u32 0),.d (.int .u32 0),.d (.int .u32 0),.d (.int .u32 0),.d (.int .u32 0)]=ag.zero.cells:=rfl
@[simp] theorem ag.aq (v:ag):v.cells.take 8=v.cells:=rfl
theorem ag.aB (u v:ag):bV u.cells 0 v.cells=v.cells:=rfl
theorem ag.C9 (v:ag){i:Nat}(h:i<8)(x:Nat):bV v.cells i [.d (.int .u32 (x:Int))]=(v.set i x).cells:=ag.sI v h x
attribute [simp] ag.jN ag.ku ag.an ag.qp
theorem ag.bN (v:ag)(ρ:Nat→Nat):SV.aM ρ v.cells=v.cells:=rfl
theorem ag.k6 (r:Nat):ag.zero.get r=0:=by
 match r with
 | 0 | 1 | 2 | 3 | 4 | 5 | 6 | 7 | _+8=>rfl
def ag.zip (f:Nat→Nat→Nat)(a b:ag):ag:=ag.of fun r=>f (a.get r) (b.get r)
def ag.upto (i:Nat)(a b:ag):ag:=ag.of fun r=>if r<i then a.get r else b.get r
theorem ag.yC (a b:ag):ag.upto 0 a b=b:=ag.ext' fun r hr=>by simp [ag.upto,ag.kr _ hr]
theorem ag.AB (a b:ag):ag.upto 8 a b=a:=ag.ext' fun r hr=>by simp [ag.upto,ag.kr _ hr,hr]
theorem ag.yD (a b:ag){i:Nat}(h:i<8):(ag.upto i a b).set i (a.get i)=ag.upto (i+1) a b:=ag.ext' fun r hr=>by
 simp only [ag.set,ag.upto,ag.kr _ hr]
 by_cases e:r=i
 ·subst e;simp
 ·by_cases e2:r<i
  ·simp [e,e2,show r<i+1 by omega]
  ·simp [e,e2,show ¬ r<i+1 by omega]
theorem Fu {l:List ag}{i:Nat}{x:ag}(h:l[i]? =some x):List.take 8 (List.drop (i*8) (List.map SV.d (l.flatMap ag.ds)))=x.cells:=by
 rw [← List.map_drop,← List.map_take,jM ag.ds 8 (fun _=>rfl) l i x h]
 rfl
@[simp] theorem G6 (l:List ag):(l.flatMap ag.ds).length=l.length*8:=eB ag.ds 8 (fun _=>rfl) l
def ag.all (op:Nat→Nat→Nat):List ag→ag
 | []=>ag.zero
 | x::r=>r.foldl (ag.zip op) x
theorem ag.uM (op:Nat→Nat→Nat)(l:List ag)(x:ag):ag.all op (l++[x])=if l.length=0 then x else ag.zip op (ag.all op l) x:=by
 cases l with
 | nil=>rfl
 | cons y l=>simp [ag.all,List.foldl_append]
theorem eR {α:Type}{l:List α}{i:Nat}{x:α}(h:l[i]? =some x):l.take (i+1)=l.take i++[x]:=by
 rw [List.take_add_one,h];rfl
theorem dw {α:Type}{l:List α}{i:Nat}{x:α}(h:l[i]? =some x):i<l.length:=(List.getElem?_eq_some_iff.1 h).1
theorem bR {α:Type}{l:List α}{i:Nat}(h:i<l.length):∃ x,l[i]? =some x:=⟨_,List.getElem?_eq_getElem h⟩
abbrev C_ (l:List ag):SV:= .d (.sl l.length (l.flatMap ag.ds))
theorem ag.dX (a b:ag):eZ [true,true,true,true,true,true,true,true] a.cells b.cells=some (decide (a=b)):=ag.fV a b
structure Dt where
 (r n:Nat)
 deriving DecidableEq
def Dt.ds (d:Dt):List DV:=[.int .u8 d.r,.int .u32 d.n]
def Dt.cells (d:Dt):List SV:=[u8 d.r,u32 d.n]
@[simp] theorem Dt.ku (d:Dt):d.ds.length=2:=rfl
@[simp] theorem Dt.jN (d:Dt):d.cells.length=2:=rfl
@[simp] theorem Dt.an (d:Dt) (q:Nat→Bool):SV.aF q d.cells=true:=rfl
theorem Dt.bN (d:Dt)(ρ:Nat→Nat):SV.aM ρ d.cells=d.cells:=rfl
@[simp] theorem Dt.aq (d:Dt):d.cells.take 2=d.cells:=rfl
theorem Dt.eu (d:Dt):d.cells[0]? =some (u8 d.r):=rfl
theorem Dt.ew (d:Dt):d.cells[1]? =some (u32 d.n):=rfl
theorem Dt.aB (c d:Dt):bV c.cells 0 d.cells=d.cells:=rfl
theorem Dt.ak:[SV.d (.int .u8 0),.d (.int .u32 0)]=(Dt.mk 0 0).cells:=rfl
theorem Dt.ec (c:Dt)(a b:Nat):bV (bV c.cells 0 [.d (.int .u8 (a:Int))]) 1 [.d (.int .u32 (b:Int))]=(Dt.mk a b).cells:=rfl
@[simp] theorem EJ (cs:List SV) (o:Nat) (c:SV):(bV cs o [c]).length=cs.length:=by simp [bV]
theorem C' (cs:List SV)(o:Nat)(c:SV):bV cs o [c]=cs.set o c:=rfl
theorem Dt.cells_one (d:Dt):d.cells.all SV.aZ=true:=rfl
theorem Dt.fV (a b:Dt):eZ [true,true] a.cells b.cells=some (decide (a=b)):=by
 have h:eZ [true,true] a.cells b.cells=some (((a.r:Int) == b.r) && (((a.n:Int) == b.n) && true)):=by simp [eZ,yw,Dt.cells]
 rw [h]
 congr 1
 obtain ⟨a0,a1⟩:=a
 obtain ⟨b0,b1⟩:=b
 rw [Bool.eq_iff_iff]
 simp
 omega
def Dt.may (d:Dt):Bool:=decide (d.r<8) && decide (0<d.n)
def Dt.wf (d:Dt):Prop:=d.r<256∧d.n<4294967296
@[simp] theorem G7 (l:List Dt):(l.flatMap Dt.ds).length=l.length*2:=eB Dt.ds 2 (fun _=>rfl) l
section
variable {P:Program} {N k0:Nat} {st:St} {Q:Exit→St→Prop}
theorem SW.slot {c:cr}(t:Nat){s:SV}(s':SV)(hl:st.env.lookup t=some s)(hs:∀ (p:Nat→Prop) μ M v,Rp p μ M s v→Rp p μ M s' v)(h:SW P N k0 c ⟨(t,s')::st.env,st.hp,st.k⟩ Q):SW P N k0 c st Q:=by
 refine fun cc hc rd hrf dg M0 w0 c0 a w ga=>h cc hc rd hrf dg M0 w0 c0 a w ?_
 obtain ⟨mq,hdf,hsz,μ,M,gi,hS,hE⟩:=ga
 refine ⟨mq,hdf,hsz,μ,M,fun q x hq=> ?_,hS,hE⟩
 simp only [List.lookup] at hq
 split at hq
 ·rename_i e
  have e:q=t:=by simpa using e
  injection hq with hq
  subst e;subst hq
  exact hs _ _ _ _ (gi q s hl)
 ·exact gi q x hq
theorem jo (p:Nat→Prop)(μ:Nat→Nm)(M:Mem)(v:Value)(h:Rp p μ M (.d .aY) v):Rp p μ M (.d (.sl 0 [])) v:=Rp.cu.2 (Rp.cu.1 h).jo
theorem SW.aY {c:cr}(t:Nat)(hl:st.env.lookup t=some (.d .aY))(h:SW P N k0 c ⟨(t,.d (.sl 0 []))::st.env,st.hp,st.k⟩ Q):SW P N k0 c st Q:=SW.slot t _ hl jo h
end
end Go.Sl
namespace Go.Sl
section
namespace Co
def M (d s:Nat):SI:=⟨some d,.mv (.t s),none⟩
def G (d s g:Nat)(b:Bool):SI:=⟨some d,.mv (.t s),some (g,b)⟩
def J (d:Nat)(o:SO):SI:=⟨some d,o,none⟩
def H (d:Nat)(o:SO)(g:Nat)(b:Bool):SI:=⟨some d,o,some (g,b)⟩
def N (o:SO):SI:=⟨none,o,none⟩
def F (l:List SI)(n:Nat):cr:= .c7 l (kX n) false
def C (f:FuncId):X:= .k (.fn (.func f) [] [])
def Z (n:Int):X:= .k (.d (.int .i64 n))
def B (b:Bool):X:= .k (.d (.bool b))
def b8 (n:Int):SV:= .d (.int .u8 n)
def aJ (n:Int):SV:= .d (.int .u32 n)
def b_ (n:Int):SV:= .d (.int .u64 n)
def i6 (n:Int):SV:= .d (.int .i64 n)
def z8:List SV:=[.d (.int .u32 0),.d (.int .u32 0),.d (.int .u32 0),.d (.int .u32 0),.d (.int .u32 0),.d (.int .u32 0),.d (.int .u32 0),.d (.int .u32 0)]
def cn:List SV:=[.d (.int .u8 0),.d (.int .u32 0),.d (.int .u32 0),.d (.int .u32 0),.d (.int .u32 0),.d (.int .u32 0),.d (.int .u32 0),.d (.int .u32 0),.d (.int .u32 0),.d (.int .u32 0),.d (.int .u64 0),.d (.int .u32 0),.d (.int .u8 0),.d (.int .u32 0),.d (.int .u8 0),.d (.int .u8 0),.d (.int .u32 0),.d (.int .u32 0),.d (.int .u8 0),.d (.int .u8 0),.d (.int .u64 0),.d (.int .u8 0),.d (.int .u32 0),.d (.int .u8 0),.d (.int .u32 0),.d (.int .u32 0),.d (.int .u32 0),.d (.int .u32 0),.d .aY]
end Co
def En (P:Program)(f:FuncId)(N:Nat)(s:cr)(rv:List RV):Prop:=
 ∀ {args:List SV} {F:Hp} {k nk:Nat} {Q:SV→Hp→Prop} (_:SV.aF (fun n=>decide (n<k)) args=true) (_:F.ok (fun n=>decide (n<k))=true) (_:args.length≤N)
  (_:SW P N k s ⟨dc 0 args,F,k⟩ fun e st'=>match e with | .normal=>Fin k nk rv Q st' | .ret=>Fin k nk rv Q st' | _=>False),SB P f args F k nk Q
theorem En.mk {P:Program}{f N:Nat}{fn:Func}{c:Code}{s:cr}{rv:List RV}(hf:P.funcs[f]? =some fn)(hN:fn.ntmps=N)(hb:fn.body=some c)(hc:cK P fn.ntmps c=some s)(hr:C5 P fn.results.toList=some rv)(ha:gU P f=true):En P f N s rv:=by
 subst hN
 intro args F k nk Q h1 h2 h3 h
 exact SB.C6 hf hb hc hr ha h1 h2 h3 h
end
section
def ag.aV (v:ag)(d:Dt):Bool:=d.may && decide (d.n≤v.get d.r)
def ag.above (a b:ag):Bool:=(List.range 8).all fun r=>decide (b.get r≤a.get r)
theorem ag.jO {a b:ag}:a.above b=true↔∀ r,r<8→b.get r≤a.get r:=by simp [ag.above]
theorem ag.xG (f:Nat→Nat→Nat)(a b:ag){r:Nat}(h:r<8):(ag.zip f a b).get r=f (a.get r) (b.get r):=by simp [ag.zip,ag.kr _ h]
theorem ag.uN (a b:ag):decide (ag.zip max a b=a)=a.above b:=by
 rw [Bool.eq_iff_iff,decide_eq_true_eq,ag.jO]
 constructor
 ·intro h r hr
  have:=ag.xG max a b hr
  rw [h] at this
  omega
 ·intro h
  exact ag.ext' fun r hr=>by rw [ag.xG _ _ _ hr];have:=h r hr;omega
def ag.count (v:ag):Nat:=v.a0+v.a1+v.a2+v.a3+v.a4+v.a5+v.a6+v.a7
def ag.sum (v:ag):Nat→Nat
 | 0=>0
 | i+1=>ag.sum v i+v.get i
theorem ag.Da (v:ag):v.sum 8=v.count:=by simp [ag.sum,ag.count,ag.get]
theorem ag.AD (v:ag)(h:v.wf):∀ i,i≤8→v.sum i≤i*4294967295
 | 0,_=>by simp [ag.sum]
 | i+1,hi=>by
  have h1:=ag.AD v h i (by omega)
  have h2:=h i (by omega)
  simp only [ag.sum]
  omega
theorem ag.Db:ag.zero.wf:=fun r _=>by rw [ag.k6];omega
theorem ag.AE {a:ag}{i x:Nat}(ha:a.wf)(hx:x<4294967296):(a.set i x).wf:=fun r hr=>by
 simp only [ag.set,ag.kr _ hr];split;exact hx;exact ha r hr
theorem ag.tJ (a:ag)(i x:Nat){r:Nat}(h:r<8):(a.set i x).get r=if r=i then x else a.get r:=by simp [ag.set,ag.kr _ h]
theorem wrap_u32 (n:Nat)(h:n<4294967296):IntKind.u32.wrap (n:Int)=n:=by
 simp [IntKind.wrap,IntKind.bits,IntKind.signed];omega
theorem wrap_u64 (n:Nat)(h:n<18446744073709551616):IntKind.u64.wrap (n:Int)=n:=by
 simp [IntKind.wrap,IntKind.bits,IntKind.signed];omega
theorem wrap_u8 (n:Nat)(h:n<256):IntKind.u8.wrap (n:Int)=n:=by
 simp [IntKind.wrap,IntKind.bits,IntKind.signed];omega
theorem ag.bO (a b c d e f g h:SV)(r:List SV)(v:ag):bV (a::b::c::d::e::f::g::h::r) 0 v.cells=v.cells++r:=rfl
theorem ag.ey (u v:ag)(r:List SV):bV (u.cells++r) 8 v.cells=u.cells++bV r 0 v.cells:=rfl
theorem ag.cL (u v:ag)(r:List SV):bV (u.cells++r) 16 v.cells=u.cells++bV r 8 v.cells:=rfl
theorem ag.cM (u v:ag)(r:List SV):bV (u.cells++r) 24 v.cells=u.cells++bV r 16 v.cells:=rfl
theorem ag.av (u:ag)(r:List SV):bC (u.cells++r)=match bC r with | some x=>some (u.ds++x) | none=>none:=by
 cases h:bC r <;> simp [ag.cells,bC,h,ag.ds]
theorem ag.ax (u:ag):bC u.cells=some u.ds:=rfl
theorem Dt.bO (a b:SV)(r:List SV)(v:Dt):bV (a::b::r) 0 v.cells=v.cells++r:=rfl
theorem Dt.ez (u v:Dt)(r:List SV):bV (u.cells++r) 2 v.cells=u.cells++bV r 0 v.cells:=rfl
theorem Dt.av (u:Dt)(r:List SV):bC (u.cells++r)=match bC r with | some x=>some (u.ds++x) | none=>none:=by
 cases h:bC r <;> simp [Dt.cells,bC,h,Dt.ds]
theorem Dt.ax (u:Dt):bC u.cells=some u.ds:=rfl
theorem bt (l:List DV):(l.map SV.d).all SV.aZ=true:=by simp [SV.aZ]
def AF (r a c:Nat):List Dt:=(List.range c).map fun i=>⟨r,a+i⟩
@[simp] theorem Fv (r a c:Nat):(AF r a c).length=c:=by simp [AF]
theorem SV.gX (ρ:Nat→Nat):∀ (a b:List SV),SV.aM ρ (a++b)=SV.aM ρ a++SV.aM ρ b
 | [],b=>rfl
 | x::a,b=>by simp [SV.aM,SV.gX ρ a b]
theorem SV.gK (q:Nat→Bool):∀ (a b:List SV),SV.aF q (a++b)=(SV.aF q a && SV.aF q b)
 | [],b=>rfl
 | x::a,b=>by simp [SV.aF,SV.gK q a b,Bool.and_assoc]
theorem cN:(false == true)=false:=rfl
theorem cQ:(true == false)=false:=rfl
end
end Go.Sl
