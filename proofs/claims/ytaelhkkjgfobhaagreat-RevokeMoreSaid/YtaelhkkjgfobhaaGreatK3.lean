/-
 A region, in whatever order: what each operation needs is there when it comes up.
-/
import Derived.Test.YtaelhkkjgfobhaaGreatK2
import Derived.RangeFuncRecord
set_option linter.unusedSimpArgs false
set_option linter.unusedSectionVars false
set_option linter.unusedVariables false
namespace Go.Sl
open Go.RowKit
section
def pick {α:Type}(A:Nat→Bool)(f:Nat→α)(n:Nat)(c:α):α:=match n with
 | 0=>c
 | n+1=>if A n then f n else pick A f n c
theorem eN {α:Type}{A B:Nat→Bool}{f:Nat→α}{c:α}:∀ {n:Nat},(∀ i,i<n→A i=B i)→pick A f n c=pick B f n c
 | 0,_=>rfl
 | n+1,h=>by simp only [pick,h n (by omega),eN (n:=n) fun i hi=>h i (by omega)]
theorem qq {α:Type}{A:Nat→Bool}{f:Nat→α}{c:α}:∀ {n:Nat},(∀ i,i<n→A i=false)→pick A f n c=c
 | 0,_=>rfl
 | n+1,h=>by simp [pick,h n (by omega),qq (n:=n) fun i hi=>h i (by omega)]
theorem sK {α:Type}{A B:Nat→Bool}{f:Nat→α}{c:α}{i:Nat}:∀ {n:Nat},i<n→(∀ j,j<n→j≠i→B j=A j)→(∀ j,j<n→i<j→A j=false)→B i=true→pick B f n c=f i
 | 0,h,_,_,_=>by omega
 | n +1,h,h1,h2,h3=>by
  by_cases hn:n=i
  ·subst hn;simp [pick,h3]
  ·have hA:A n=false:=h2 n (by omega) (by omega)
   have hB:B n=false:=(h1 n (by omega) hn).trans hA
   simp only [pick,hB,Bool.false_eq_true,if_false]
   exact sK (by omega) (fun j hj=>h1 j (by omega)) (fun j hj=>h2 j (by omega)) h3
theorem qt {α:Type}{A:Nat→Bool}{f:Nat→α}{c:α}{i:Nat}:∀ {n:Nat},i≤n→pick (fun j=>A j && decide (j<i)) f n c=pick A f i c
 | 0,h=>by
  have:i=0:=by omega
  subst this;rfl
 | n +1,h=>by
  by_cases hn:i=n+1
  ·subst hn
   exact eN fun j hj=>by simp [hj]
  ·have:decide (n<i)=false:=by simp;omega
   simp only [pick,this,Bool.and_false,Bool.false_eq_true,if_false]
   exact qt (by omega)
def eG (bs:List Nat)(i j:Nat):Bool:=(bs.getD j 0).testBit i
def qu (n:Nat)(f:Nat→Nat→Bool):Bool:=(List.range n).all fun i=>(List.range n).all fun j=>f i j
theorem ng {n:Nat}{f:Nat→Nat→Bool}(h:qu n f=true){i j:Nat}(hi:i<n)(hj:j<n):f i j=true:=by
 have:=List.all_eq_true.1 h i (List.mem_range.2 hi)
 exact List.all_eq_true.1 this j (List.mem_range.2 hj)
def okB (ops:Array Oper)(bs:List Nat):Bool:=
 qu ops.size (fun j i=> !eG bs i j || (i<j && ((ops[j]?).map fun o=>o.after.any fun e=>Region.binds .any e && (e.on == i || (e.on<j && eG bs i e.on))).getD false)) &&
 (List.range ops.size).all fun j=>((ops[j]?).map fun o=>o.after.all fun e=> !Region.binds .any e || e.on<j).getD false
def fz (ops:Array Oper)(i:Nat):Option Tmp:=(ops[i]?).bind (·.dst)
def looks (ops:Array Oper)(i:Nat):List Tmp:=((ops[i]?).map fun o=>o.looksAt ops).getD []
def zu (ops:Array Oper)(bs:List Nat):Bool:=
 qu ops.size fun i j=>i == j || match fz ops i with
  | none=>true
  | some d=>fz ops j != some d && (!(looks ops j).contains d || eG bs i j || eG bs j i)
structure RG (P:Program)(ops:Array Oper)(bs:List Nat)(N:Nat)(E0:Nat→Option SV)(H0:Nat→Option Ob)(k0:Nat)(cq:Nat→kH)(ro:Nat→Bool)(kk:Nat→Nat):Prop where
 slots:zu ops bs=true
 Lj:∀ i d,fz ops i=some d→d<N
 KE:kk 0=k0
 KF:∀ i,kk (i+1)=kk i+(cq i).nk
 I9:∀ i j h_,i<ops.size→j<ops.size→i≠j→ro i=false→((lk (cq i).F h_).isSome || (lk (cq i).F' h_).isSome)=true→((lk (cq j).F h_).isSome || (lk (cq j).F' h_).isSome)=true→eG bs i j=true∨eG bs j i=true
 Lk:∀ i,ro i=true→(cq i).F'=(cq i).F
section
variable {P:Program} {ops:Array Oper} {bs:List Nat} {N:Nat} {E0:Nat→Option SV} {H0:Nat→Option Ob} {k0:Nat} {cq:Nat→kH} {ro:Nat→Bool} {kk:Nat→Nat}
def gu (ops:Array Oper)(E0:Nat→Option SV)(cq:Nat→kH)(D:Nat→Bool)(n t:Nat):Option SV:=pick (fun i=>D i && fz ops i == some t) (fun i=>some (cq i).v) n (E0 t)
def iu (cq:Nat→kH)(i h_:Nat):Bool:=(lk (cq i).F h_).isSome || (lk (cq i).F' h_).isSome
def eB (H0:Nat→Option Ob)(cq:Nat→kH)(ro:Nat→Bool)(D:Nat→Bool)(n h_:Nat):Option Ob:=pick (fun i=>D i && (!ro i && iu cq i h_)) (fun i=>lk (cq i).F' h_) n (H0 h_)
def kN (want:Bool):SV→Bool
 | .d (.bool b)=>b != want
 | .dM []=>true
 | _=>false
def qv (P:Program)(ops:Array Oper)(E:Nat→Option SV)(H:Nat→Option Ob)(k:Nat)(o:Oper)(e:kH):Prop:=
 (∃ j want t s,o.guard=some (j,want)∧fz ops j=some t∧E t=some s∧kN want s=true∧e.v= .dM []∧e.F=[]∧e.F'=[]∧e.nk=0)∨
 ((o.guard=none∨∃ j want t,o.guard=some (j,want)∧fz ops j=some t∧E t=some (.d (.bool want)))∧Sound P o E H k e)
theorem OT.facts {o:Oper}{E E':Nat→Option SV}{F F':Hp}{new:Nat→Prop}{v:SV}(h:OT P o E F new v F')(hE:∀ t,Operand.tmp t∈o.op.operands→∀ s,E t=some s→E' t=some s):OT P o E' F new v F':=by
 intro rd p μ M a w K Q hnew hk hS hK
 exact h rd p μ M a w K Q hnew ⟨fun t ht s hs=>hk.1 t ht s (hE t ht s hs),hk.2⟩ hS hK
theorem Aq {i:Nat}{o:Oper}{t:Nat}(ho:ops[i]? =some o)(ht:Operand.tmp t∈o.op.operands):t∈looks ops i:=by
 simp only [looks,ho,Option.map_some,Option.getD_some,Oper.looksAt,List.mem_append]
 exact .inl (List.mem_filterMap.2 ⟨.tmp t,by simpa using ht,rfl⟩)
theorem rz {i j:Nat}{o:Oper}{t:Nat}{want:Bool}(ho:ops[i]? =some o)(hg:o.guard=some (j,want))(ht:fz ops j=some t):t∈looks ops i:=by
 simp only [looks,ho,Option.map_some,Option.getD_some,Oper.looksAt,List.mem_append,hg]
 refine .inr ?_
 unfold fz at ht
 simp [ht]
def sL (ops:Array Oper)(D:Nat→Bool):Prop:=∀ j o,D j=true→ops[j]? =some o→∀ e∈o.after,Region.binds .any e=true→D e.on=true
def zw (ops:Array Oper)(D:Nat→Bool)(i:Nat):Prop:=∀ o,ops[i]? =some o→∀ e∈o.after,Region.binds .any e=true→D e.on=true
theorem yh (h:okB ops bs=true){i j:Nat}(hj:j<ops.size)(hi:i<ops.size)(ho:eG bs i j=true):i<j∧∃ o,ops[j]? =some o∧∃ e∈o.after,Region.binds .any e=true∧(e.on=i∨(e.on<j∧eG bs i e.on=true)):=by
 simp only [okB,Bool.and_eq_true] at h
 have:=ng h.1 hj hi
 simp only [ho,Bool.not_true,Bool.false_or,Bool.and_eq_true,decide_eq_true_eq] at this
 refine ⟨this.1,ops[j],Array.getElem?_eq_getElem hj,?_⟩
 have h2:=this.2
 rw [Array.getElem?_eq_getElem hj] at h2
 simp only [Option.map_some,Option.getD_some] at h2
 obtain ⟨e,he,hb⟩:=Array.any_eq_true'.1 h2
 simp only [Bool.and_eq_true,Bool.or_eq_true,beq_iff_eq,decide_eq_true_eq] at hb
 exact ⟨e,he,hb.1,hb.2⟩
theorem qw (h:okB ops bs=true){D:Nat→Bool}(hc:sL ops D):∀ {j i:Nat},j<ops.size→i<ops.size→zw ops D j→eG bs i j=true→D i=true:=by
 intro j
 induction j using Nat.strongRecOn with
 | _ j ih=>
  intro i hj hi hp ho
  obtain ⟨_,o,ho',e,he,hb,h2⟩:=yh h hj hi ho
  have hD:=hp o ho' e he hb
  rcases h2 with rfl | ⟨hlt,h3⟩
  ·exact hD
  ·exact ih e.on hlt (by omega) hi (fun o' ho''=>hc e.on o' hD ho'') h3
theorem yj (h:okB ops bs=true){D:Nat→Bool}(hc:sL ops D){i j:Nat}(hj:j<ops.size)(hi:i<ops.size)(hD:D j=true)(ho:eG bs i j=true):D i=true:=
 qw h hc hj hi (fun o' ho'=>hc j o' hD ho') ho
theorem KG (h:okB ops bs=true){D:Nat→Bool}(hc:sL ops D){i j:Nat}(hi:i<ops.size)(hj:j<ops.size)(hn:D i=false)(hp:zw ops D i)(ho:eG bs i j=true∨eG bs j i=true):D j=decide (j<i):=by
 rcases ho with ho | ho
 ·have hlt:=(yh h hj hi ho).1
  cases hD:D j with
  | false=>simp;omega
  | true=>
   have:=yj h hc hj hi hD ho
   rw [this] at hn;cases hn
 ·have hlt:=(yh h hi hj ho).1
  rw [qw h hc hi hj hp ho]
  simp [hlt]
variable (hR:RG P ops bs N E0 H0 k0 cq ro kk)
include hR
theorem RG.E2 {D:Nat→Bool}{i t:Nat}(hi:i<ops.size)(hn:D i=false)(hT:∀ j,j<ops.size→j≠i→(eG bs i j=true∨eG bs j i=true)→D j=decide (j<i))(hl:t∈looks ops i):
    gu ops E0 cq D ops.size t=gu ops E0 cq (fun _=>true) i t:=by
  unfold gu
  rw [← qt (A:=fun j=>true && fz ops j == some t) (n:=ops.size) (by omega)]
  refine eN fun j hj=> ?_
  by_cases hd:fz ops j=some t
  · by_cases hji:j=i
    · subst hji;simp [hn,hd]
    · have hs:=ng hR.slots hj hi
      simp only [beq_iff_eq,hji,Bool.or_eq_true,false_or,hd,Bool.and_eq_true,Bool.not_eq_true'] at hs
      have hcon:(looks ops i).contains t=true:=by simpa using hl
      rw [hcon] at hs
      have ho:eG bs i j=true∨eG bs j i=true:=by
        rcases hs.2 with (h | h) | h
        · cases h
        · exact .inr h
        · exact .inl h
      simp [hd,hT j hj hji ho]
  · simp [beq_eq_false_iff_ne.2 hd]
theorem RG.E3 {D:Nat→Bool}{i h_:Nat}(hi:i<ops.size)(hn:D i=false)(hT:∀ j,j<ops.size→j≠i→(eG bs i j=true∨eG bs j i=true)→D j=decide (j<i))(ht:iu cq i h_=true):
    eB H0 cq ro D ops.size h_=eB H0 cq ro (fun _=>true) i h_:=by
  unfold eB
  rw [← qt (A:=fun j=>true && (!ro j && iu cq j h_)) (n:=ops.size) (by omega)]
  refine eN fun j hj=> ?_
  by_cases hd:ro j=false∧iu cq j h_=true
  · by_cases hji:j=i
    · subst hji;simp [hn]
    · have ho:=hR.I9 j i h_ hj hi hji hd.1 hd.2 ht
      simp [hd.1,hd.2,hT j hj (by assumption) ho.symm]
  · have:(!ro j && iu cq j h_)=false:=by
      cases h1:ro j <;> cases h2:iu cq j h_ <;> simp_all
    simp [this]
theorem RG.wX {D:Nat→Bool}{i t:Nat}(hi:i<ops.size)(hn:D i=false):
  gu ops E0 cq (fun j=>D j || j == i) ops.size t=if fz ops i=some t then some (cq i).v else gu ops E0 cq D ops.size t:=by
 by_cases hd:fz ops i=some t
 ·rw [if_pos hd]
  unfold gu
  refine sK (A:=fun j=>D j && fz ops j == some t) hi (fun j hj hji=>by simp [beq_eq_false_iff_ne.2 hji]) (fun j hj hlt=> ?_) (by simp [hd])
  have hs:=ng hR.slots hi hj
  simp only [beq_iff_eq,Bool.or_eq_true,show ¬ i=j by omega,false_or,hd,Bool.and_eq_true,bne_iff_ne,ne_eq] at hs
  simp [hs.1]
 ·rw [if_neg hd]
  unfold gu
  refine eN fun j hj=> ?_
  by_cases hji:j=i
  ·subst hji;simp [hd,hn]
  ·simp [beq_eq_false_iff_ne.2 hji]
theorem RG.wY {D:Nat→Bool}{i:Nat}(hi:i<ops.size)(hn:D i=false)(hT:∀ j,j<ops.size→j≠i→(eG bs i j=true∨eG bs j i=true)→D j=decide (j<i))(hr:ro i=false):
  eB H0 cq ro (fun j=>D j || j == i) ops.size=ya (eB H0 cq ro D ops.size) (lk (cq i).F) (lk (cq i).F'):=by
 funext h_
 by_cases ht:iu cq i h_=true
 ·rw [dN (by
   simp only [iu,Bool.or_eq_true,Option.isSome_iff_ne_none] at ht
   exact ht)]
  unfold eB
  refine sK (A:=fun j=>D j && (!ro j && iu cq j h_)) hi (fun j hj hji=>by simp [beq_eq_false_iff_ne.2 hji]) (fun j hj hlt=> ?_) (by simp [hr,ht])
  by_cases hd:ro j=false∧iu cq j h_=true
  ·have ho:=hR.I9 j i h_ hj hi (by omega) hd.1 hd.2 ht
   have:=hT j hj (by omega) ho.symm
   simp [this]
   omega
  ·have:(!ro j && iu cq j h_)=false:=by
    cases h1:ro j <;> cases h2:iu cq j h_ <;> simp_all
   simp [this]
 ·have hF:lk (cq i).F h_=none∧lk (cq i).F' h_=none:=by
   simp only [iu,Bool.or_eq_true,Option.isSome_iff_ne_none,not_or,Classical.not_not] at ht
   exact ht
  rw [cM hF.1 hF.2]
  unfold eB
  refine eN fun j hj=> ?_
  by_cases hji:j=i
  ·subst hji;simp [hn,ht]
  ·simp [beq_eq_false_iff_ne.2 hji]
theorem RG.uJ {D:Nat→Bool}{i:Nat}(hr:ro i=true):eB H0 cq ro (fun j=>D j || j == i) ops.size=eB H0 cq ro D ops.size:=by
 funext h_
 unfold eB
 refine eN fun j hj=> ?_
 by_cases hji:j=i
 ·subst hji;simp [hr]
 ·simp [beq_eq_false_iff_ne.2 hji]
theorem RG.mono:∀ {i j:Nat},i≤j→kk i≤kk j:=by
 intro i j h
 induction j with
 | zero=>
   have:i=0:=by omega
   subst this;exact Nat.le_refl _
 | succ j ih=>
  by_cases hij:i=j+1
  ·subst hij;exact Nat.le_refl _
  ·have:=ih (by omega);rw [hR.KF];omega
omit hR
def rO (ops:Array Oper)(cq:Nat→kH)(kk:Nat→Nat)(D:Nat→Bool)(n:Nat):Prop:=∃ j,j<ops.size∧D j=true∧kk j≤n∧n<kk j+(cq j).nk
def pD (ops:Array Oper)(k0:Nat)(cq:Nat→kH)(kk:Nat→Nat)(D:Nat→Bool)(n:Nat):Prop:=n<k0∨rO ops cq kk D n
structure Inv (ops:Array Oper)(N:Nat)(E0:Nat→Option SV)(H0:Nat→Option Ob)(k0:Nat)(cq:Nat→kH)(ro:Nat→Bool)(kk:Nat→Nat)(cE:Nat→Nm)(M0:Mem)(w0:World)(df:List Deferred)(D:Nat→Bool)(a:Act)(w:World):Prop where
 ex:∃ μ M,(∀ t s,gu ops E0 cq D ops.size t=some s→Rp (pD ops k0 cq kk D) μ M s (a.tmps.getD t undef))∧bK (pD ops k0 cq kk D) μ M (eB H0 cq ro D ops.size) w∧
  Ev H0 (rO ops cq kk D) cE M0 w0 (eB H0 cq ro D ops.size) μ M w
 df:a.defers=df
 sz:a.tmps.size=N
theorem sM {a:Act}{d:Nat}{v:Value}(h:d<a.tmps.size):(a.put (some d) v).tmps.getD d undef=v:=by
 simp [Act.put,h]
theorem nh {a:Act}{d t:Nat}{v:Value}(h:t≠d):(a.put (some d) v).tmps.getD t undef=a.tmps.getD t undef:=by
 simp [Act.put,Array.getElem?_setIfInBounds_ne (Ne.symm h)]
theorem mJ {a:Act}{d:Option Nat}{v:Value}:(a.put d v).tmps.size=a.tmps.size:=by cases d <;> simp [Act.put]
theorem j3 {a:Act}{d:Option Nat}{v:Value}:(a.put d v).defers=a.defers:=by cases d <;> rfl
theorem oJ {a:Act}{j t:Nat}(hd:fz ops j=some t)(h:a.tmps.getD t undef=undef):yielded ops a.tmps j=none:=by
 unfold yielded
 unfold fz at hd
 rw [hd]
 simp only [Option.bind_some]
 rcases Nat.lt_or_ge t a.tmps.size with hl | hl
 ·rw [Array.getElem?_eq_getElem hl]
  rw [Array.getD_eq_getD_getElem?,Array.getElem?_eq_getElem hl] at h
  simp only [Option.getD_some] at h
  rw [h]
  rfl
 ·rw [Array.getElem?_eq_none hl]
theorem uK {a:Act}{d:Nat}:(a.put (some d) undef).tmps.getD d undef=undef:=by
 rcases Nat.lt_or_ge d a.tmps.size with hl | hl
 ·exact sM hl
 ·rw [Array.getD_eq_getD_getElem?,Array.getElem?_eq_none (by rw [mJ];exact hl)]
  rfl
theorem gD {a:Act}{j t:Nat}{b:Bool}(hd:fz ops j=some t)(h:a.tmps.getD t undef= .bool b):yielded ops a.tmps j=some b:=by
 unfold yielded
 unfold fz at hd
 rw [hd]
 have:a.tmps[t]? =some (.bool b):=by
  rcases Nat.lt_or_ge t a.tmps.size with hl | hl
  ·rw [Array.getElem?_eq_getElem hl]
   simp [hl] at h
   rw [h]
  ·simp [Array.getElem?_eq_none hl] at h
   cases h
 simp [this]
include hR in
theorem RG.step {rd:Option Nat}{cE:Nat→Nm}{M0:Mem}{w0:World}{df:List Deferred}{D:Nat→Bool}{i:Nat}{o:Oper}(ho:ops[i]? =some o)(hn:D i=false)(hT:∀ j,j<ops.size→j≠i→(eG bs i j=true∨eG bs j i=true)→D j=decide (j<i))
  (hs:qv P ops (gu ops E0 cq (fun _=>true) i) (eB H0 cq ro (fun _=>true) i) (kk i) o (cq i)) {a:Act} {w:World} {Q:Exit→Act→World→Prop}
  (hI:Inv ops N E0 H0 k0 cq ro kk cE M0 w0 df D a w)  :wpOpIn (jc rd) 0 P ops Q i (Inv ops N E0 H0 k0 cq ro kk cE M0 w0 df (fun j=>D j || j == i)) a w:=by
 have hi:i<ops.size:=(Array.getElem?_eq_some_iff.1 ho).1
 obtain ⟨⟨μ,M,fQ,hS,hE⟩,hdf,hsz⟩:=hI
 have hslot:∀ t,t∈looks ops i→∀ s,gu ops E0 cq (fun _=>true) i t=some s→gu ops E0 cq D ops.size t=some s:=fun t ht s h=>by
  rw [hR.E2 hi hn hT ht];exact h
 have hdst:fz ops i=o.dst:=by simp [fz,ho]
 unfold wpOpIn
 simp only [ho]
 rcases hs with ⟨j,want,t,sv,hg,hd,hE',hb,e1,e2,e3,e4⟩ | ⟨hg,hOT,hsub⟩
 ·have hv:=fQ t _ (hslot t (rz ho hg hd) _ hE')
  have hw:Region.wanted o (yielded ops a.tmps)=false:=by
   simp only [Region.wanted,hg]
   unfold kN at hb
   split at hb
   ·rw [gD hd (Rp.bz.1 hv)]
    simpa using hb
   ·obtain ⟨vs,e,hvs⟩:=Rp.dP.1 hv
    have hvs0:vs= #[]:=by have:=aR.aP.1 hvs;simpa using this
    rw [oJ hd (by rw [e,hvs0];rfl)]
    rfl
   ·cases hb
  simp only [hw,Bool.false_eq_true,if_false]
  have hnew:rO ops cq kk (fun j=>D j || j == i)=rO ops cq kk D:=by
   funext n
   apply propext
   constructor
   ·rintro ⟨j',h1,h2,h3,h4⟩
    by_cases hji:j'=i
    ·subst hji;omega
    ·exact ⟨j',h1,by simpa [beq_eq_false_iff_ne.2 hji] using h2,h3,h4⟩
   ·rintro ⟨j',h1,h2,h3,h4⟩
    exact ⟨j',h1,by simp [h2],h3,h4⟩
  have hpd:pD ops k0 cq kk (fun j=>D j || j == i)=pD ops k0 cq kk D:=by
   unfold pD;rw [hnew]
  have hcont:eB H0 cq ro (fun j=>D j || j == i) ops.size=eB H0 cq ro D ops.size:=by
   cases hr:ro i with
   | true=>exact hR.uJ hr
   | false=>
    rw [hR.wY hi hn hT hr,e2,e3]
    funext h_
    exact cM rfl rfl
  refine ⟨fun _ _=>trivial,⟨⟨μ,M,fun t s h=> ?_,by rw [hpd,hcont];exact hS,by rw [hnew,hcont];exact hE⟩,by rw [j3];exact hdf,by rw [mJ];exact hsz⟩⟩
  rw [hR.wX hi hn] at h
  rw [hpd]
  split at h
  ·rename_i heq
   rw [e1] at h
   injection h with h
   subst h
   rw [hdst] at heq
   rw [heq,uK]
   exact Rp.dP.2 ⟨#[],rfl,aR.aP.2 rfl⟩
  ·rename_i hne
   rw [hdst] at hne
   cases hod:o.dst with
   | none=>exact fQ t s h
   | some d=>rw [nh (fun e=>hne (by rw [hod,e]))];exact fQ t s h
 ·have hw:Region.wanted o (yielded ops a.tmps)=true:=by
   rcases hg with hg | ⟨j,want,t,hg,hd,hE'⟩
   ·simp [Region.wanted,hg]
   ·have hv:=Rp.bz.1 (fQ t _ (hslot t (rz ho hg hd) _ hE'))
    simp only [Region.wanted,hg,gD hd hv]
    simp
  simp only [hw,if_true]
  have hnewp:∀ n,(kk i≤n∧n<kk i+(cq i).nk)→ ¬ pD ops k0 cq kk D n:=by
   rintro n ⟨h1,h2⟩ (h3 | ⟨j,hj,hDj,h4,h5⟩)
   ·have:=hR.mono (Nat.zero_le i);rw [hR.KE] at this;omega
   ·rcases Nat.lt_trichotomy j i with hlt | heq | hgt
    ·have:=hR.mono (show j+1≤i by omega);rw [hR.KF] at this;omega
    ·subst heq;rw [hDj] at hn;cases hn
    ·have:=hR.mono (show i+1≤j by omega);rw [hR.KF] at this;omega
  have hsub':∀ h_ ob,lk (cq i).F h_=some ob→eB H0 cq ro D ops.size h_=some ob:=fun h_ ob h=>by
   rw [hR.E3 hi hn hT (by simp [iu,h])]
   exact hsub h_ ob h
  refine hOT.facts (fun t ht s h=>hslot t (Aq ho ht) s h) rd (pD ops k0 cq kk D) μ M a w _ Q hnewp ⟨fun t ht s h=>fQ t s h,hS.mem.j9⟩ (hS.sub hsub') fun u aZ M' w' hu rJ hE'=> ?_
  have hpeq:(fun n=>pD ops k0 cq kk D n∨(kk i≤n∧n<kk i+(cq i).nk))=pD ops k0 cq kk (fun j=>D j || j == i):=by
   funext n
   apply propext
   constructor
   ·rintro ((h | ⟨j,hj,h1,h2⟩) | h)
    ·exact .inl h
    ·exact .inr ⟨j,hj,by simp [h1],h2⟩
    ·exact .inr ⟨i,hi,by simp,h⟩
   ·rintro (h | ⟨j,hj,h1,h2⟩)
    ·exact .inl (.inl h)
    ·by_cases hji:j=i
     ·subst hji;exact .inr h2
     ·exact .inl (.inr ⟨j,hj,by simpa [beq_eq_false_iff_ne.2 hji] using h1,h2⟩)
  have hneq:(fun n=>rO ops cq kk D n∨(kk i≤n∧n<kk i+(cq i).nk))=rO ops cq kk (fun j=>D j || j == i):=by
   funext n
   apply propext
   constructor
   ·rintro (⟨j,hj,h1,h2⟩ | h)
    ·exact ⟨j,hj,by simp [h1],h2⟩
    ·exact ⟨i,hi,by simp,h⟩
   ·rintro ⟨j,hj,h1,h2⟩
    by_cases hji:j=i
    ·subst hji;exact .inr h2
    ·exact .inl ⟨j,hj,by simpa [beq_eq_false_iff_ne.2 hji] using h1,h2⟩
  have hfr:=hS.yc hsub' hnewp hE' rJ fun n h=> .inl h
  rw [hpeq] at hu hfr
  have hcont:eB H0 cq ro (fun j=>D j || j == i) ops.size=ya (eB H0 cq ro D ops.size) (lk (cq i).F) (lk (cq i).F'):=by
   cases hr:ro i with
   | false=>exact hR.wY hi hn hT hr
   | true=>
    rw [hR.uJ hr,hR.Lk i hr]
    funext h_
    by_cases h:lk (cq i).F h_=none
    ·rw [cM h h]
    ·rw [dN (.inl h)]
     obtain ⟨ob,bn⟩:=Option.ne_none_iff_exists'.1 h
     rw [bn];exact hsub' h_ ob bn
  refine ⟨⟨aZ,M',fun t s h=> ?_,by rw [hcont];exact hfr.1,?_⟩,by rw [j3];exact hdf,by rw [mJ];exact hsz⟩
  ·rw [hR.wX hi hn] at h
   have hold:∀ s,gu ops E0 cq D ops.size t=some s→Rp (pD ops k0 cq kk (fun j=>D j || j == i)) aZ M' s (a.tmps.getD t undef):=fun s h=>by
    rw [← hpeq]
    exact (fQ t s h).more (fun n h=> .inl h) (fun n h=>hE'.old n fun h'=>hnewp n h' h) hE'.mem
   split at h
   ·rename_i hd
    injection h with h
    subst h
    rw [hdst] at hd
    rw [hd,sM (by rw [hsz];exact hR.Lj i t (by rw [hdst,hd]))]
    exact hu
   ·rename_i hne
    rw [hdst] at hne
    cases hod:o.dst with
    | none=>exact hold s h
    | some d=>rw [nh (fun e=>hne (by rw [hod,e]))];exact hold s h
  ·rw [hcont]
   have:=hE.trans hfr.2
   rwa [hneq] at this
theorem Inv.congr {cE:Nat→Nm}{M0:Mem}{w0:World}{df:List Deferred}{D D':Nat→Bool}{a:Act}{w:World}(h:Inv ops N E0 H0 k0 cq ro kk cE M0 w0 df D a w)(hD:∀ j,j<ops.size→D j=D' j):Inv ops N E0 H0 k0 cq ro kk cE M0 w0 df D' a w:=by
 have e1:gu ops E0 cq D ops.size=gu ops E0 cq D' ops.size:=funext fun t=>eN fun i hi=>by rw [hD i hi]
 have e2:eB H0 cq ro D ops.size=eB H0 cq ro D' ops.size:=funext fun t=>eN fun i hi=>by rw [hD i hi]
 have e3:rO ops cq kk D=rO ops cq kk D':=funext fun n=>propext ⟨fun ⟨j,h1,h2,h3⟩=>⟨j,h1,by rw [← hD j h1];exact h2,h3⟩,fun ⟨j,h1,h2,h3⟩=>⟨j,h1,by rw [hD j h1];exact h2,h3⟩⟩
 have e4:pD ops k0 cq kk D=pD ops k0 cq kk D':=by unfold pD;rw [e3]
 obtain ⟨⟨μ,M,h1,h2,h3⟩,h4,h5⟩:=h
 rw [e1,e4] at h1
 rw [e4,e2] at h2
 rw [e3,e2] at h3
 exact ⟨⟨μ,M,h1,h2,h3⟩,h4,h5⟩
def gF (listed:Array Bool):Nat→Nat
 | 0=>0
 | n+1=>gF listed n+if listed.getD n true then 0 else 1
theorem oK {listed:Array Bool}{i:Nat}(hu:listed.getD i true=false):∀ n,gF (listed.setIfInBounds i true) n+(if i<n then 1 else 0)=gF listed n
 | 0=>by simp [gF]
 | n + 1=>by
  have ih:=oK hu n
  simp only [gF]
  by_cases hn:n=i
  ·subst hn
   have hlt:n<listed.size:=by
    rcases Nat.lt_or_ge n listed.size with h | h
    ·exact h
    ·simp [Array.getElem?_eq_none h] at hu
   have h1:(listed.setIfInBounds n true).getD n true=true:=by simp [hlt]
   rw [h1,hu]
   simp at ih ⊢
   omega
  ·rw [getD_set_ne true (Ne.symm hn)]
   by_cases hlt:i<n
   ·simp [hlt] at ih
    simp [show i<n+1 by omega]
    omega
   ·simp [hlt] at ih
    simp [show ¬ i<n+1 by omega]
    omega
theorem mK {listed:Array Bool}:∀ {n:Nat},gF listed n=0→∀ j,j<n→listed.getD j true=true
 | 0,_,j,h=>by omega
 | n +1,h,j,hj=>by
  simp only [gF] at h
  by_cases hn:j=n
  ·subst hn
   cases hh:listed.getD j true with
   | true=>rfl
   | false=>rw [hh] at h;simp at h
  ·exact mK (n:=n) (by omega) j (by omega)
theorem oL {listed:Array Bool}{n:Nat}(h:∀ j,j<n→listed.getD j true=true):gF listed n=0:=by
 induction n with
 | zero=>rfl
 | succ n ih=>simp only [gF,h n (by omega),ih fun j hj=>h j (by omega)];rfl
theorem uL (hb:okB ops bs=true){listed:Array Bool}(hsz:listed.size=ops.size)(h:Region.ready .any ops listed=[]):∀ j,j<ops.size→listed.getD j true=true:=by
 intro j
 induction j using Nat.strongRecOn with
 | _ j ih=>
  intro hj
  cases hl:listed.getD j true with
  | true=>rfl
  | false=>
   exfalso
   have:j∈Region.ready .any ops listed:=mem_ready.2 ⟨hl,ops[j],Array.getElem?_eq_getElem hj,fun e he hbd=>by
    simp only [okB,Bool.and_eq_true] at hb
    have h2:=List.all_eq_true.1 hb.2 j (List.mem_range.2 hj)
    rw [Array.getElem?_eq_getElem hj] at h2
    simp only [Option.map_some,Option.getD_some] at h2
    have h3:=Array.all_eq_true_iff_forall_mem.1 h2 e he
    simp only [hbd,Bool.not_true,Bool.false_or,decide_eq_true_eq] at h3
    have h4:=ih e.on h3 (by omega)
    have hlt:e.on<listed.size:=by omega
    simp [hlt] at h4 ⊢
    exact h4⟩
   rw [h] at this
   cases this
theorem RG.drawn {rd:Option Nat}(hR:RG P ops bs N E0 H0 k0 cq ro kk)(hb:okB ops bs=true)
  (hs:∀ (i:Nat) (o:Oper),ops[i]? =some o→qv P ops (gu ops E0 cq (fun _=>true) i) (eB H0 cq ro (fun _=>true) i) (kk i) o (cq i))
  {cE:Nat→Nm} {M0:Mem} {w0:World} {df:List Deferred} {Q:Exit→Act→World→Prop} (hQ:∀ a w,Inv ops N E0 H0 k0 cq ro kk cE M0 w0 df (fun _=>true) a w→Q .normal a w):
  ∀ (fuel:Nat) (listed:Array Bool) (a:Act) (w:World),listed.size=ops.size→gF listed ops.size=fuel→sL ops (fun j=>listed.getD j false)→Inv ops N E0 H0 k0 cq ro kk cE M0 w0 df (fun j=>listed.getD j false) a w→
   wpAnyIn (jc rd) 0 P .any ops Q fuel listed a w:=by
 have same:∀ (listed:Array Bool),listed.size=ops.size→∀ j,j<ops.size→listed.getD j true=listed.getD j false:=fun listed hl j hj=>by simp [show j<listed.size by omega]
 intro fuel
 induction fuel with
 | zero=>
  intro listed a w hl hcnt hc hI
  have hall:=mK hcnt
  refine ⟨?_,hQ a w (hI.congr fun j hj=>by rw [← same listed hl j hj];exact hall j hj)⟩
  refine List.eq_nil_iff_forall_not_mem.2 fun i hi=> ?_
  obtain ⟨h1,o,h2,_⟩:=mem_ready.1 hi
  rw [hall i (Array.getElem?_eq_some_iff.1 h2).1] at h1
  cases h1
 | succ fuel ih=>
  intro listed a w hl hcnt hc hI
  refine ⟨fun h=> ?_,fun i hi=> ?_⟩
  ·have:=oL (uL hb hl h)
   omega
  ·obtain ⟨h1,o,h2,h3⟩:=mem_ready.1 hi
   have hi':i<ops.size:=(Array.getElem?_eq_some_iff.1 h2).1
   have hn:listed.getD i false=false:=by rw [← same listed hl i hi'];exact h1
   have hp:zw ops (fun j=>listed.getD j false) i:=fun o' ho' e he hbd=>by
    rw [h2] at ho';injection ho' with ho';subst ho'
    exact h3 e he hbd
   refine wpOpIn_mono (fun a' w' hI'=> ?_) (hR.step h2 hn (fun j hj hji ho=>KG hb hc hi' hj hn hp ho) (hs i o h2) hI)
   have hD:∀ j,(listed.getD j false || j == i)=(listed.setIfInBounds i true).getD j false:=fun j=>by
    by_cases hji:j=i
    ·subst hji
     simp [show j<listed.size by omega]
    ·rw [getD_set_ne false (Ne.symm hji)]
     simp [beq_eq_false_iff_ne.2 hji]
   refine ih (listed.setIfInBounds i true) a' w' (by simpa using hl) (by have:=oK h1 ops.size;simp [hi'] at this;omega) (fun j o' hDj ho' e he hbd=> ?_) (hI'.congr fun j _=>hD j)
   simp only [← hD] at hDj ⊢
   simp only [Bool.or_eq_true,beq_iff_eq] at hDj
   rcases hDj with h | rfl
   ·simp [hc j o' h ho' e he hbd]
   ·rw [h2] at ho';injection ho' with ho';subst ho'
    have:=h3 e he hbd
    simp [this]
theorem RG.E4 {rd:Option Nat}(hR:RG P ops bs N E0 H0 k0 cq ro kk)
  (hs:∀ (i:Nat) (o:Oper),ops[i]? =some o→qv P ops (gu ops E0 cq (fun _=>true) i) (eB H0 cq ro (fun _=>true) i) (kk i) o (cq i))
  {cE:Nat→Nm} {M0:Mem} {w0:World} {df:List Deferred} {Q:Exit→Act→World→Prop} (hQ:∀ a w,Inv ops N E0 H0 k0 cq ro kk cE M0 w0 df (fun _=>true) a w→Q .normal a w):
  ∀ (m k:Nat) (a:Act) (w:World),k+m=ops.size→Inv ops N E0 H0 k0 cq ro kk cE M0 w0 df (fun j=>decide (j<k)) a w→wpOpsIn (jc rd) 0 P ops Q (List.range' k m) a w:=by
 intro m
 induction m with
 | zero=>
  intro k a w hk hI
  simp only [List.range',wpOpsIn]
  exact hQ a w (hI.congr fun j hj=>by simp;omega)
 | succ m ih=>
  intro k a w hk hI
  rw [List.range'_succ,wpOpsIn_cons]
  have hkn:k<ops.size:=by omega
  refine wpOpIn_mono (fun a' w' hI'=> ?_) (hR.step (Array.getElem?_eq_getElem hkn) (by simp) (fun j _ _ _=>rfl) (hs k _ (Array.getElem?_eq_getElem hkn)) hI)
  exact ih (k+1) a' w' (by omega) (hI'.congr fun j _=>by
   by_cases h1:j=k
   ·subst h1;simp
   ·simp [beq_eq_false_iff_ne.2 h1];omega)
end
end
section
def je (P:Program)(f:FuncId):Bool:=
 match P.funcs[f]? with
 | some fn=>fn.name != "runtime.NumGoroutine" && fn.body.isSome
 | none=>false
def SC (P:Program)(f:FuncId)(args:List SV)(F:Hp)(k nk:Nat)(Q:SV→Hp→Prop):Prop:=
 je P f=true∧
 ∀ (p:Nat→Prop) (μ:Nat→Nm) (M:Mem) (w:World) (vals:Array Value),(∀ n,(k≤n∧n<k+nk)→ ¬ p n)→aR p μ M args vals.toList→bK p μ M (lk F) w→
  Calls P f vals w fun e w'=>∃ r F' aZ M' u,e= .returned u∧Q r F'∧Rp (fun n=>p n∨(k≤n∧n<k+nk)) aZ M' r u∧bK (fun n=>p n∨(k≤n∧n<k+nk)) aZ M' (lk F') w'∧
   Ev (lk F) (fun n=>k≤n∧n<k+nk) μ M w (lk F') aZ M' w'
def aM (P:Program)(f:FuncId)(args:List SV)(F:Hp)(k nk:Nat)(v:SV)(F':Hp):Prop:=SC P f args F k nk fun r h=>r=v∧h=F'
theorem SC.mono {P:Program}{f:FuncId}{args:List SV}{F:Hp}{k nk:Nat}{Q Q':SV→Hp→Prop}(h:SC P f args F k nk Q)(hq:∀ r F',Q r F'→Q' r F'):SC P f args F k nk Q':=
 ⟨h.1,fun p μ M w vals h1 h2 h3=>(h.2 p μ M w vals h1 h2 h3).mono fun e w' ⟨r,F',aZ,M',u,a,b,c⟩=>⟨r,F',aZ,M',u,a,hq r F' b,c⟩⟩
def BR (P:Program)(l:Nat)(vals:Array Value)(w:World)(R:Ending→World→Prop):Prop:=
 ∃ fn tmps assign body,(Instr.yield l vals).run P w= .ok (.round l fn tmps assign body) w∧RoundIn (jc none) 0 P l fn tmps assign body w R
def SY (P:Program)(nl:Nat)(args:List SV)(F:Hp)(k nk:Nat)(Q:SV→Hp→Prop):Prop:=
 ∀ (p:Nat→Prop) (μ:Nat→Nm) (M:Mem) (w:World) (vals:Array Value),(∀ n,(k≤n∧n<k+nk)→ ¬ p n)→p nl→aR p μ M args vals.toList→bK p μ M (lk F) w→
  BR P (μ nl).blk vals w fun e w'=>∃ r F' aZ M' u,e= .returned u∧Q r F'∧Rp (fun n=>p n∨(k≤n∧n<k+nk)) aZ M' r u∧bK (fun n=>p n∨(k≤n∧n<k+nk)) aZ M' (lk F') w'∧
   Ev (lk F) (fun n=>k≤n∧n<k+nk) μ M w (lk F') aZ M' w'
def Gw (P:Program)(nl:Nat)(args:List SV)(F:Hp)(k nk:Nat)(v:SV)(F':Hp):Prop:=SY P nl args F k nk fun r h=>r=v∧h=F'
section
variable {P:Program}
theorem lS {w:World}{f:FuncId}(h:je P f=true)(args:Array Value):(callFunc f args).run P w= .ok (.enter f args) w:=by
 unfold je at h
 split at h <;> first | (cases h;done) | skip
 rename_i fn hf
 simp only [Bool.and_eq_true,bne_iff_ne,ne_eq] at h
 obtain ⟨c,hc⟩:=Option.isSome_iff_exists.1 h.2
 simp [callFunc,hf,h.1,hc]
theorem vN {o:Oper}{E:Nat→Option SV}{c:Call}{fo:Operand}{f':X}{as':List X}{fid:FuncId}{first cap as:List SV}{F:Hp}{k nk:Nat}{Q:SV→Hp→Prop}
  (ho:o.op= .call c) (bR:c.callee= .value fo) (hf:cX fo=some f') (ha:Bv c.args.toList=some as') (h1:ev E f'=some (.fn (.func fid) first cap)) (h2:oG E as'=some as)
  (Bw:SC P fid (first++as++cap) F k nk Q) {rd:Option Nat} {p:Nat→Prop} {μ:Nat→Nm} {M:Mem} {a:Act} {w:World} {K:Act→World→Prop} {QQ:Exit→Act→World→Prop} (hnew:∀ n,(k≤n∧n<k+nk)→ ¬ p n)
  (hk:gq E o.op.operands p μ M a) (hS:bK p μ M (lk F) w)
  (hK:∀ r F' u aZ M' w',Q r F'→Rp (fun n=>p n∨(k≤n∧n<k+nk)) aZ M' r u→bK (fun n=>p n∨(k≤n∧n<k+nk)) aZ M' (lk F') w'→Ev (lk F) (fun n=>k≤n∧n<k+nk) μ M w (lk F') aZ M' w'→K (a.put o.dst u) w'):
  o.wpIn (jc rd) 0 P a w K QQ:=by
 have hin:fo∈o.op.operands:=by simp [ho,Op.operands,Call.operands,bR]
 have hin2:∀ x∈c.args.toList,x∈o.op.operands:=fun x hx=>by
  rw [ho];simp only [Op.operands,Call.operands,bR,Array.mem_append];exact .inr (by simpa using hx)
 obtain ⟨fs,cs,e1,r1,r2⟩:=Rp.qj.1 (hk.get hin hf h1)
 have r3:=hk.vG hin2 ha h2
 have hargs:aR p μ M (first++as++cap) (fs++c.args.map a.eval++cs).toList:=by
  simpa using (r1.append r3).append r2
 have hrun:(execOp a.eval o).run P w= .ok (.enter fid (fs++c.args.map a.eval++cs)) w:=by
  simp only [execOp,ho,resolve,bR,e1,Deferred.ofValue,Sem.run_bind,Sem.run_pure,Result.andThen_ok,invoke,lS Bw.1]
 refine ⟨fun _ _=>trivial,?_⟩
 rw [mZ (fun d e=>by cases e) hrun,Oper.uponIn_enter]
 refine ⟨(fun h=>by cases h),ql.2 ?_⟩
 refine (Bw.2 p μ M w _ hnew hargs hS).mono ?_
 rintro e w' ⟨r,F',aZ,M',u,rfl,hq,hr,rJ,hE⟩
 exact hK r F' u aZ M' w' hq hr rJ hE
theorem wZ {o:Oper}{E:Nat→Option SV}{c:Call}{fo:Operand}{f':X}{as':List X}{nl:Nat}{as:List SV}{F:Hp}{k nk:Nat}{Q:SV→Hp→Prop}
  (ho:o.op= .call c) (bR:c.callee= .value fo) (hf:cX fo=some f') (ha:Bv c.args.toList=some as') (h1:ev E f'=some (.yl nl)) (h2:oG E as'=some as) (hF:lk F nl≠none)
  (Bw:SY P nl as F k nk Q) {rd:Option Nat} {p:Nat→Prop} {μ:Nat→Nm} {M:Mem} {a:Act} {w:World} {K:Act→World→Prop} {QQ:Exit→Act→World→Prop} (hnew:∀ n,(k≤n∧n<k+nk)→ ¬ p n)
  (hk:gq E o.op.operands p μ M a) (hS:bK p μ M (lk F) w)
  (hK:∀ r F' u aZ M' w',Q r F'→Rp (fun n=>p n∨(k≤n∧n<k+nk)) aZ M' r u→bK (fun n=>p n∨(k≤n∧n<k+nk)) aZ M' (lk F') w'→Ev (lk F) (fun n=>k≤n∧n<k+nk) μ M w (lk F') aZ M' w'→K (a.put o.dst u) w'):
  o.wpIn (jc rd) 0 P a w K QQ:=by
 have hin:fo∈o.op.operands:=by simp [ho,Op.operands,Call.operands,bR]
 have hin2:∀ x∈c.args.toList,x∈o.op.operands:=fun x hx=>by
  rw [ho];simp only [Op.operands,Call.operands,bR,Array.mem_append];exact .inr (by simpa using hx)
 have e1:a.eval fo= .func (.yield (μ nl).blk) #[] #[]:=by simpa [cI] using (hk.get hin hf h1).rep
 have r3:=hk.vG hin2 ha h2
 have hargs:aR p μ M as (c.args.map a.eval).toList:=by simpa using r3
 obtain ⟨ob,bn⟩:=Option.ne_none_iff_exists'.1 hF
 obtain ⟨fn,tmps,assign,body,hy,hround⟩:=Bw p μ M w _ hnew (hS.obs nl ob bn).1 hargs hS
 have hrun:(execOp a.eval o).run P w= .ok (.round (μ nl).blk fn tmps assign body) w:=by
  simp only [execOp,ho,resolve,bR,e1,Deferred.ofValue,Sem.run_bind,Sem.run_pure,Result.andThen_ok,invoke]
  simpa using hy
 refine ⟨fun _ _=>trivial,?_⟩
 rw [mZ (fun d e=>by cases e) hrun,Oper.uponIn_round]
 refine ⟨(fun h=>by cases h),RoundIn.mono (show RoundIn (jc rd) (0 - 1) P _ _ _ _ _ _ _ from hround) ?_⟩
 rintro e w' ⟨r,F',aZ,M',u,rfl,hq,hr,rJ,hE⟩
 exact hK r F' u aZ M' w' hq hr rJ hE
structure SI where
 dst:Option Nat
 op:SO
 g:Option (Nat×Bool)
def oz (P:Program)(ops:Array Oper)(o:Oper):Option SI:=
 match cO P o.op with
 | some so=>match o.guard with
  | none=>some ⟨o.dst,so,none⟩
  | some (j,w)=>match fz ops j with
   | some t=>some ⟨o.dst,so,some (t,w)⟩
   | none=>none
 | none=>none
def sN (P:Program)(ops:Array Oper):List Oper→Option (List SI)
 | []=>some []
 | o::r=>match oz P ops o,sN P ops r with
  | some s,some ss=>some (s::ss)
  | _,_=>none
structure St where
 env:List (Nat×SV)
 hp:Hp
 k:Nat
inductive CR where
 | own
 | iB
 | call (F:Hp) (v:SV) (F':Hp) (nk:Nat)
 | Lb (pt:FuncId→List SV→Option SV)
def HSub (F h:Hp):Prop:=∀ n ob,lk F n=some ob→lk h n=some ob
def eV (P:Program)(st:St)(so:SO)(de:List CR):Option (kH×List CR):=
 match so with
 | .call f args=>match ev (fun t=>st.env.lookup t) f,oG (fun t=>st.env.lookup t) args,de with
  | some (.fn (.func fid) first cap),some as,.call F v F' nk::crs'=>some (⟨v,F,F',nk,aM P fid (first++as++cap) F st.k nk v F'∧HSub F st.hp⟩,crs')
  | some (.fn (.func fid) first cap),some as,.Lb pt::crs'=>match pt fid (first++as++cap) with
   | some v=>some (⟨v,[],[],0,aM P fid (first++as++cap) [] st.k 0 v []∧HSub [] st.hp⟩,.Lb pt::crs')
   | none=>none
  | some (.yl nl),some as,.call F v F' nk::crs'=>some (⟨v,F,F',nk,Gw P nl as F st.k nk v F'∧lk F nl≠none∧HSub F st.hp⟩,crs')
  | _,_,_=>none
 | .oU e sz len z parts=>match de with
  | .own::crs'=>match cZ (fun t=>st.env.lookup t) (lk st.hp) st.k true (.oU e sz len z parts) with
   | some e=>some (e,crs')
   | none=>none
  | .iB::crs'=>match cZ (fun t=>st.env.lookup t) (lk st.hp) st.k false (.oU e sz len z parts) with
   | some e=>some (e,crs')
   | none=>none
  | de=>match cZ (fun t=>st.env.lookup t) (lk st.hp) st.k false (.oU e sz len z parts) with
   | some e=>some (e,de)
   | none=>none
 | so=>match cZ (fun t=>st.env.lookup t) (lk st.hp) st.k false so with
  | some e=>some (e,de)
  | none=>none
def eW (P:Program)(st:St)(si:SI)(de:List CR):Option (kH×List CR):=
 match si.g with
 | none=>eV P st si.op de
 | some (t,w)=>match st.env.lookup t with
  | some (.d (.bool b))=>if b == w then eV P st si.op de else some (⟨.dM [],[],[],0,True⟩,de)
  | some (.dM [])=>some (⟨.dM [],[],[],0,True⟩,de)
  | _=>none
def gw:Hp→Nat→Ob→Hp
 | [],n,ob=>[(n,ob)]
 | (m,o)::h,n,ob=>if m=n then (n,ob)::h else (m,o)::gw h n ob
def fZ (h:Hp)(n:Nat)(ob:Ob):Hp:=match lk h n with
 | some _=>gw h n ob
 | none=>(n,ob)::h
def di:Hp→Nat→Hp
 | [],n=>[]
 | (m,o)::h,n=>if m=n then di h n else (m,o)::di h n
def dg (h:Hp):Hp→Hp
 | []=>h
 | (n,ob)::r=>fZ (dg h r) n ob
def dh (h:Hp)(F':Hp):Hp→Hp
 | []=>h
 | (n,_)::r=>if (lk F' n).isSome then dh h F' r else di (dh h F' r) n
def bV (ro:Bool)(h F F':Hp):Hp:=if ro then h else dg (dh h F' F) F'
theorem rY:∀ (h:Hp) (n:Nat) (ob:Ob) (m:Nat),lk (gw h n ob) m=if m=n then some ob else lk h m
 | [],n,ob,m=>by simp only [gw];rw [bZ];rfl
 | (q, o)::h,n,ob,m=>by
  simp only [gw]
  split
  ·rename_i e
   subst e
   rw [aa,aa]
   split <;> rfl
  ·rename_i e
   rw [aa,aa,rY h n ob m]
   by_cases h2:m=n
   ·subst h2
    have:m≠q:=fun h=>e h.symm
    simp [this]
   ·simp [h2]
theorem pz (h:Hp)(n:Nat)(ob:Ob)(m:Nat):lk (fZ h n ob) m=if m=n then some ob else lk h m:=by
 unfold fZ
 split
 ·exact rY h n ob m
 ·have:lk ((n,ob)::h) m=if m=n then some ob else lk h m:=by
   unfold lk
   simp only [List.lookup]
   by_cases e:m=n
   ·subst e;simp
   ·rw [if_neg e,show (m == n)=false by simpa using e]
  exact this
theorem cR:∀ (h:Hp) (n m:Nat),lk (di h n) m=if m=n then none else lk h m
 | [],n,m=>by simp [di,bt]
 | (q, o)::h,n,m=>by
  simp only [di]
  split
  ·rename_i e
   subst e
   rw [cR h q m,aa]
   split <;> rfl
  ·rename_i e
   rw [aa,aa,cR h n m]
   by_cases h2:m=n
   ·subst h2
    have:m≠q:=fun h=>e h.symm
    simp [this]
   ·simp [h2]
theorem w_ (h:Hp):∀ (F':Hp) (m:Nat),lk (dg h F') m=match lk F' m with
  | some ob=>some ob
  | none=>lk h m
 | [],m=>by simp [dg,bt]
 | (n,ob)::r,m=>by
  simp only [dg]
  rw [pz,w_ h r m,aa]
  by_cases h1:m=n <;> simp [h1]
theorem sO (h F':Hp):∀ (F:Hp) (m:Nat),lk (dh h F' F) m=if (lk F m).isSome && (lk F' m).isNone then none else lk h m
 | [],m=>by simp [dh,bt]
 | (n, ob)::r,m=>by
  simp only [dh]
  split
  ·rename_i h1
   rw [sO h F' r m,aa]
   by_cases h2:m=n
   ·subst h2
    have:(lk F' m).isNone=false:=by
     cases hh:lk F' m with
     | none=>rw [hh] at h1;cases h1
     | some _=>rfl
    simp [this]
   ·simp [h2]
  ·rename_i h1
   rw [cR,sO h F' r m,aa]
   by_cases h2:m=n
   ·subst h2
    simp at h1
    simp [h1]
   ·simp [h2]
theorem fA {ro:Bool}{h F F':Hp}(hs:HSub F h)(hr:ro=true→F'=F):lk (bV ro h F F')=ya (lk h) (lk F) (lk F'):=by
 funext m
 unfold bV
 cases ro with
 | true=>
  rw [hr rfl]
  by_cases h1:lk F m=none
  ·rw [cM h1 h1];rfl
  ·rw [dN (.inl h1)]
   obtain ⟨ob,bn⟩:=Option.ne_none_iff_exists'.1 h1
   rw [bn]
   exact hs m ob bn
 | false=>
  simp only [Bool.false_eq_true,if_false]
  rw [w_,sO]
  cases h1:lk F' m with
  | some ob=>rw [dN (.inr (by rw [h1];simp))];simp [h1]
  | none=>
   cases h2:lk F m with
   | some ob=>rw [dN (.inl (by rw [h2];simp))];simp [h1]
   | none=>rw [cM h2 h1];simp
def kr (st:St)(si:SI)(e:kH):St:=
 ⟨match si.dst with | some d=>(d,e.v)::st.env | none=>st.env,bV (cg si.op) st.hp e.F e.F',st.k+e.nk⟩
def gh (si:SI)(e:kH):Bool×List Nat:=(cg si.op,e.F.map (·.1)++e.F'.map (·.1))
def runs (P:Program):List SI→St→List CR→Option (St×Prop×List (Bool×List Nat))
 | [],st,_=>some (st,True,[])
 | si::r,st,de=>match eW P st si de with
  | some (e,crs')=>match runs P r (kr st si e) crs' with
   | some (st',ob,ts)=>some (st',e.ob∧ob,gh si e::ts)
   | none=>none
  | none=>none
def ku (bs:List Nat)(ts:List (Bool×List Nat)):Bool:=
 qu ts.length fun i j=>i == j || (ts.getD i (true,[])).1 || !((ts.getD i (true,[])).2.any fun n=>(ts.getD j (true,[])).2.contains n) || eG bs i j || eG bs j i
def jK (n:Nat):List Nat:=(List.range n).map fun j=>2 ^ j - 1
def trace (P:Program):List SI→St→List CR→List kH
 | [],_,_=>[]
 | si::r,st,de=>match eW P st si de with
  | some (e,crs')=>e::trace P r (kr st si e) crs'
  | none=>[]
def jf:List SI→St→List kH→Nat→St
 | si::r,st,e::es,i+1=>jf r (kr st si e) es i
 | _,st,_,_=>st
theorem pE {st':St}:∀ {cH:List SI} {st:St} {de:List CR} {ob:Prop} {ts:List (Bool×List Nat)},runs P cH st de=some (st',ob,ts)→(trace P cH st de).length=cH.length∧ts=(List.zipWith gh cH (trace P cH st de))∧
  (ob→∀ e∈trace P cH st de,e.ob)∧st'=jf cH st (trace P cH st de) cH.length
 | [],st,de,ob,ts,h=>by
  simp [runs] at h
  obtain ⟨rfl,_,rfl⟩:=h
  simp [trace,jf]
 | si::r,st,de,ob,ts,h=>by
  simp only [runs] at h
  split at h <;> first | (cases h;done) | skip
  rename_i e crs' he
  split at h <;> first | (cases h;done) | skip
  rename_i st2 EN ts2 h2
  simp only [Option.some.injEq,Prod.mk.injEq] at h
  obtain ⟨rfl,rfl,rfl⟩:=h
  obtain ⟨a1,a2,a3,a4⟩:=pE h2
  simp only [trace,he]
  refine ⟨by simp [a1],by simp [← a2],fun h e' he'=> ?_,by simpa [jf] using a4⟩
  rcases List.mem_cons.1 he' with rfl | he'
  ·exact h.1
  ·exact a3 h.2 e' he'
theorem ni:∀ (cH:List SI) (st:St) (es:List kH) (i:Nat) (si:SI) (e:kH),cH[i]? =some si→es[i]? =some e→jf cH st es (i+1)=kr (jf cH st es i) si e
 | [],st,es,i,si,e,h,_=>by simp at h
 | si'::r,st,[],i,si,e,_,h=>by simp at h
 | si'::r,st,e'::es,0,si,e,h1,h2=>by
  simp at h1 h2
  subst h1;subst h2
  cases r <;> cases es <;> simp [jf]
 | si'::r,st,e'::es,i+1,si,e,h1,h2=>by
  simp only [jf]
  exact ni r _ es i si e (by simpa using h1) (by simpa using h2)
theorem sP:∀ {cH:List SI} {st:St} {de:List CR} {i:Nat} {si:SI} {e:kH},cH[i]? =some si→(trace P cH st de)[i]? =some e→∃ c1 c2,eW P (jf cH st (trace P cH st de) i) si c1=some (e,c2)
 | [],st,de,i,si,e,h,_=>by simp at h
 | si'::r,st,de,i,si,e,h1,h2=>by
  simp only [trace] at h2 ⊢
  split at h2 <;> first | (simp at h2;done) | skip
  rename_i e' crs' he
  cases i with
  | zero=>
   simp at h1 h2
   subst h1;subst h2
   exact ⟨de,crs',by simpa [jf] using he⟩
  | succ i=>
   obtain ⟨c1,c2,h⟩:=sP (cH:=r) (st:=kr st si' e') (de:=crs') (i:=i) (by simpa using h1) (by simpa using h2)
   exact ⟨c1,c2,by simpa [jf] using h⟩
theorem lT (env:List (Nat×SV))(d:Nat)(v:SV)(t:Nat):((d,v)::env).lookup t=if d=t then some v else env.lookup t:=by
 simp only [List.lookup]
 by_cases h:t=d
 ·subst h;simp
 ·rw [show (t == d)=false by simpa using h,if_neg (Ne.symm h)]
theorem Hs {E:Nat→Option SV}{H:Nat→Option Ob}{k:Nat}{own:Bool}{so:SO}{e:kH}(h:cZ E H k own so=some e)(hr:cg so=true):e.F'=e.F:=by
 cases so <;> simp only [cg,Bool.false_eq_true] at hr <;> simp only [cZ] at h <;>
  (repeat' (first | (cases h;done) | (injection h with h;subst h;rfl) | split at h))
theorem pF {op:Op}{f:X}{args:List X}(hc:cO P op=some (.call f args)):∃ c fo,op= .call c∧c.callee= .value fo∧cX fo=some f∧Bv c.args.toList=some args:=by
 cases op <;> simp only [cO] at hc <;> try (cases hc;done)
 case call c=>
  refine ⟨c,?_⟩
  cases bR:c.callee with
  | value fo=>
   simp only [bR] at hc
   split at hc <;> first | (cases hc;done) | skip
   rename_i f' as' hf ha
   injection hc with hc
   injection hc with hc1 EG
   subst hc1;subst EG
   exact ⟨fo,rfl,rfl,hf,ha⟩
  | invoke _ _=>simp [bR] at hc
  | builtin b=>
   exfalso
   simp only [bR] at hc
   repeat' (first | contradiction | (cases hc;done) | split at hc)
 all_goals (repeat' (first | contradiction | (cases hc;done) | (obtain ⟨_,_,hh⟩:=Option.map_eq_some_iff.1 hc;cases hh;done) | split at hc))
theorem sQ {ops:Array Oper}{o:Oper}{st:St}{so:SO}{c1 c2:List CR}{e:kH}(hc:cO P o.op=some so)(h:eV P st so c1=some (e,c2))(bn:e.ob):
  Sound P o (fun t=>st.env.lookup t) (lk st.hp) st.k e∧(cg so=true→e.F'=e.F):=by
 have plain:∀ (own:Bool) (c:List CR),cZ (fun t=>st.env.lookup t) (lk st.hp) st.k own so=some e→Sound P o (fun t=>st.env.lookup t) (lk st.hp) st.k e∧(cg so=true→e.F'=e.F):=fun own c hs=>
  ⟨Ap hc hs bn,Hs hs⟩
 unfold eV at h
 split at h
 ·rename_i f args
  split at h <;> first | (cases h;done) | skip
  ·rename_i fid first cap as F v F' nk crs' h1 h2
   injection h with h
   injection h with h h'
   subst h;subst h'
   obtain ⟨Bw,hsub⟩:=bn
   refine ⟨⟨?_,hsub⟩,fun hr=>by simp [cg] at hr⟩
   obtain ⟨c,fo,hop,bR,hf,ha⟩:=pF hc
   intro rd p μ M a w K Q hnew hk hS hK
   exact vN hop bR hf ha h1 h2 Bw hnew hk hS fun r F'' u aZ M' w' ⟨e1,e2⟩ hr rJ hE=>by
    subst e1;subst e2
    exact hK u aZ M' w' hr rJ hE
  ·rename_i fid first cap as pt crs' h1 h2
   split at h <;> first | (cases h;done) | skip
   rename_i v hv
   injection h with h
   injection h with h h'
   subst h;subst h'
   obtain ⟨Bw,hsub⟩:=bn
   refine ⟨⟨?_,hsub⟩,fun hr=>by simp [cg] at hr⟩
   obtain ⟨c,fo,hop,bR,hf,ha⟩:=pF hc
   intro rd p μ M a w K Q hnew hk hS hK
   exact vN hop bR hf ha h1 h2 Bw hnew hk hS fun r F'' u aZ M' w' ⟨e1,e2⟩ hr rJ hE=>by
    subst e1;subst e2
    exact hK u aZ M' w' hr rJ hE
  ·rename_i nl as F v F' nk crs' h1 h2
   injection h with h
   injection h with h h'
   subst h;subst h'
   obtain ⟨Bw,hnl,hsub⟩:=bn
   refine ⟨⟨?_,hsub⟩,fun hr=>by simp [cg] at hr⟩
   obtain ⟨c,fo,hop,bR,hf,ha⟩:=pF hc
   intro rd p μ M a w K Q hnew hk hS hK
   exact wZ hop bR hf ha h1 h2 hnl Bw hnew hk hS fun r F'' u aZ M' w' ⟨e1,e2⟩ hr rJ hE=>by
    subst e1;subst e2
    exact hK u aZ M' w' hr rJ hE
 ·split at h
  ·split at h <;> first | (cases h;done) | skip
   rename_i hs
   injection h with h
   injection h with h h'
   subst h
   exact plain true [] hs
  all_goals
   split at h <;> first | (cases h;done) | skip
   rename_i hs
   injection h with h
   injection h with h h'
   subst h
   exact plain false [] hs
 ·split at h <;> first | (cases h;done) | skip
  rename_i hs
  injection h with h
  injection h with h h'
  subst h
  exact plain false [] hs
def E5 (ops:Array Oper)(draw:Bool):List Nat:=if draw then (Region.before ops).toList else jK ops.size
def BS (P:Program)(N:Nat)(ops:Array Oper)(draw:Bool):Option (List SI×List Nat):=
 match sN P ops ops.toList with
 | some cH=>
  if ((!draw || okB ops (E5 ops draw)) && zu ops (E5 ops draw) && (cH.all fun s=>match s.dst with | some d=>decide (d<N) | none=>true))=true then some (cH,E5 ops draw) else none
 | none=>none
theorem lU {ops:Array Oper}:∀ {l:List Oper} {cH:List SI},sN P ops l=some cH→l.length=cH.length∧∀ (i:Nat) (o:Oper),l[i]? =some o→∃ si,cH[i]? =some si∧oz P ops o=some si
 | [],cH,h=>by simp [sN] at h;subst h;simp
 | o::l,cH,h=>by
  simp only [sN] at h
  split at h <;> first | (cases h;done) | skip
  rename_i s ss h1 h2
  simp at h
  subst h
  obtain ⟨a1,a2⟩:=lU h2
  refine ⟨by simp [a1],fun i o' hi=> ?_⟩
  cases i with
  | zero=>simp at hi;subst hi;exact ⟨s,rfl,h1⟩
  | succ i=>simpa using a2 i o' (by simpa using hi)
theorem uM {n i j:Nat}(hj:j<n)(hij:i<j):eG (jK n) i j=true:=by
 unfold eG jK
 rw [List.getD_eq_getElem?_getD,List.getElem?_map,List.getElem?_range hj]
 simp only [Option.map_some,Option.getD_some]
 rw [Nat.testBit_two_pow_sub_one]
 simpa using hij
end
end
section
mutual
def SV.ok (q:Nat→Bool):SV→Bool
 | .d _=>true
 | .ptr n _=>q n
 | .gs n _=>q n
 | .vp _ _=>true
 | .bs n _ _=>q n
 | .mp n=>q n
 | .it n=>q n
 | .yl n=>q n
 | .fn _ a c=>SV.ay q a && SV.ay q c
 | .agg cs=>SV.ay q cs
 | .dM cs=>SV.ay q cs
 | .any=>true
def SV.ay (q:Nat→Bool):List SV→Bool
 | []=>true
 | c::cs=>SV.ok q c && SV.ay q cs
end
mutual
def SV.aC (ρ:Nat→Nat):SV→SV
 | .d x=> .d x
 | .ptr n o=> .ptr (ρ n) o
 | .gs n l=> .gs (ρ n) l
 | .vp cs i=> .vp cs i
 | .bs n o l=> .bs (ρ n) o l
 | .mp n=> .mp (ρ n)
 | .it n=> .it (ρ n)
 | .yl n=> .yl (ρ n)
 | .fn f a c=> .fn f (SV.aW ρ a) (SV.aW ρ c)
 | .agg cs=> .agg (SV.aW ρ cs)
 | .dM cs=> .dM (SV.aW ρ cs)
 | .any=> .any
def SV.aW (ρ:Nat→Nat):List SV→List SV
 | []=>[]
 | c::cs=>SV.aC ρ c::SV.aW ρ cs
end
mutual
theorem cI.congr {q:Nat→Bool}{μ ν:Nat→Nm}{M:Mem}(h:∀ n,q n=true→ν n=μ n):∀ (s:SV) (v:Value),s.ok q=true→cI μ M s v→cI ν M s v
 | .d x,v,_,hr=>by simpa [cI] using hr
 | .ptr n o,v,hq,hr=>by simp only [cI,SV.ok] at *;rw [h n hq];exact hr
 | .gs n l,v,hq,hr=>by simp only [cI,SV.ok] at *;rw [h n hq];exact hr
 | .vp cs i,v,_,hr=>by simpa [cI] using hr
 | .bs n _ _,v,hq,hr=>by simp only [cI,SV.ok] at *;rw [h n hq];exact hr
 | .mp n,v,hq,hr=>by simp only [cI,SV.ok] at *;rw [h n hq];exact hr
 | .it n,v,hq,hr=>by simp only [cI,SV.ok] at *;rw [h n hq];exact hr
 | .yl n,v,hq,hr=>by simp only [cI,SV.ok] at *;rw [h n hq];exact hr
 | .fn f a c,v,hq,hr=>by
  simp only [cI,SV.ok,Bool.and_eq_true] at*
  obtain ⟨as,cs,e,h1,h2⟩:=hr
  exact ⟨as,cs,e,bY.congr h a _ hq.1 h1,bY.congr h c _ hq.2 h2⟩
 | .agg cs,v,hq,hr=>by
  simp only [cI,SV.ok] at*
  obtain ⟨vs,e,h1⟩:=hr
  exact ⟨vs,e,bY.congr h cs _ hq h1⟩
 | .dM cs,v,hq,hr=>by
  simp only [cI,SV.ok] at*
  obtain ⟨vs,e,h1⟩:=hr
  exact ⟨vs,e,bY.congr h cs _ hq h1⟩
 | .any,_,_,_=>by simp [cI]
theorem bY.congr {q:Nat→Bool}{μ ν:Nat→Nm}{M:Mem}(h:∀ n,q n=true→ν n=μ n):∀ (s:List SV) (v:List Value),SV.ay q s=true→bY μ M s v→bY ν M s v
 | [],v,_,hr=>by simpa [bY] using hr
 | c::cs,v,hq,hr=>by
  simp only [bY,SV.ay,Bool.and_eq_true] at*
  obtain ⟨u,us,e,h1,h2⟩:=hr
  exact ⟨u,us,e,cI.congr h c u hq.1 h1,bY.congr h cs us hq.2 h2⟩
end
mutual
theorem cI.dV {ρ:Nat→Nat}{μ:Nat→Nm}{M:Mem}:∀ (s:SV) (v:Value),cI μ M (s.aC ρ) v↔cI (fun n=>μ (ρ n)) M s v
 | .d x,v=>by simp [cI,SV.aC]
 | .ptr n o,v=>by simp [cI,SV.aC]
 | .gs n l,v=>by simp [cI,SV.aC]
 | .vp cs i,v=>by simp [cI,SV.aC]
 | .bs n _ _,v=>by simp [cI,SV.aC]
 | .mp n,v=>by simp [cI,SV.aC]
 | .it n,v=>by simp [cI,SV.aC]
 | .yl n,v=>by simp [cI,SV.aC]
 | .fn f a c,v=>by
  simp only [cI,SV.aC]
  constructor
  ·rintro ⟨as,cs,e,h1,h2⟩;exact ⟨as,cs,e,(bY.dV a _).1 h1,(bY.dV c _).1 h2⟩
  ·rintro ⟨as,cs,e,h1,h2⟩;exact ⟨as,cs,e,(bY.dV a _).2 h1,(bY.dV c _).2 h2⟩
 | .agg cs,v=>by
  simp only [cI,SV.aC]
  constructor
  ·rintro ⟨vs,e,h1⟩;exact ⟨vs,e,(bY.dV cs _).1 h1⟩
  ·rintro ⟨vs,e,h1⟩;exact ⟨vs,e,(bY.dV cs _).2 h1⟩
 | .dM cs,v=>by
  simp only [cI,SV.aC]
  constructor
  ·rintro ⟨vs,e,h1⟩;exact ⟨vs,e,(bY.dV cs _).1 h1⟩
  ·rintro ⟨vs,e,h1⟩;exact ⟨vs,e,(bY.dV cs _).2 h1⟩
 | .any,_=>by simp [cI,SV.aC]
theorem bY.dV {ρ:Nat→Nat}{μ:Nat→Nm}{M:Mem}:∀ (s:List SV) (v:List Value),bY μ M (SV.aW ρ s) v↔bY (fun n=>μ (ρ n)) M s v
 | [],v=>by simp [bY,SV.aW]
 | c::cs,v=>by
  simp only [bY,SV.aW]
  constructor
  ·rintro ⟨u,us,e,h1,h2⟩;exact ⟨u,us,e,(cI.dV c u).1 h1,(bY.dV cs us).1 h2⟩
  ·rintro ⟨u,us,e,h1,h2⟩;exact ⟨u,us,e,(cI.dV c u).2 h1,(bY.dV cs us).2 h2⟩
end
theorem SV.vO {q:Nat→Bool}:∀ {cs:List SV},SV.ay q cs=true↔∀ c∈cs,c.ok q=true
 | []=>by simp [SV.ay]
 | c::cs=>by simp [SV.ay,SV.vO (cs:=cs)]
theorem SV.bh {q:Nat→Bool}(xs:List DV):SV.ay q (xs.map .d)=true:=by
 rw [SV.vO];intro c hc;obtain ⟨x,_,rfl⟩:=List.mem_map.1 hc;rfl
theorem SV.ia {ρ:Nat→Nat}:∀ (xs:List DV),SV.aW ρ (xs.map .d)=xs.map .d
 | []=>rfl
 | x::xs=>by simp [SV.aW,SV.aC,SV.ia xs]
def Ob.ok (q:Nat→Bool):Ob→Bool
 | .box _ cs=>SV.ay q cs
 | .arr _ _ _ cs=>SV.ay q cs
 | .map es _=>es.all fun e=>e.2.1.ok q && e.2.2.ok q
 | .fu=>true
 | .iter mo _ _ _=>match mo with
  | some n=>q n
  | none=>true
 | .kJ _ _ cs _ _ _ _ _=>SV.ay q cs
def Ob.aC (ρ:Nat→Nat):Ob→Ob
 | .box t cs=> .box t (SV.aW ρ cs)
 | .arr e sz len cs=> .arr e sz len (SV.aW ρ cs)
 | .map es c=> .map (es.map fun e=>(e.1,e.2.1.aC ρ,e.2.2.aC ρ)) c
 | .fu=> .fu
 | .iter mo a b c=> .iter (mo.map ρ) a b c
 | .kJ N ts cs ps as bd st pe=> .kJ N ts (SV.aW ρ cs) ps as bd st pe
def Hp.aC (ρ:Nat→Nat)(h:Hp):Hp:=h.map fun x=>(ρ x.1,x.2.aC ρ)
def Hp.ok (q:Nat→Bool)(h:Hp):Bool:=h.all fun x=>q x.1 && x.2.ok q
section
variable {p p':Nat→Prop} {μ ν:Nat→Nm} {M:Mem}
theorem Rp.BT {q:Nat→Bool}{s:SV}{v:Value}(hq:s.ok q=true)(hp:∀ n,q n=true→p n)(h:cI μ M s v):Rp p μ M s v:=
 fun ν gp=>cI.congr (fun n hn=>gp n (hp n hn)) s v hq h
theorem aR.zx {q:Nat→Bool}{s:List SV}{v:List Value}(hq:SV.ay q s=true)(hp:∀ n,q n=true→p n)(h:bY μ M s v):aR p μ M s v:=
 fun ν gp=>bY.congr (fun n hn=>gp n (hp n hn)) s v hq h
theorem Rp.to {q:Nat→Bool}{ρ:Nat→Nat}{s:SV}{v:Value}(hq:s.ok q=true)(hp:∀ n,q n=true→p n)(gp:∀ n,q n=true→ν n=μ (ρ n))(h:cI μ M (s.aC ρ) v):Rp p ν M s v:=
 Rp.BT hq hp (cI.congr gp s v hq ((cI.dV s v).1 h))
theorem Rp.back {q:Nat→Bool}{ρ:Nat→Nat}{s:SV}{v:Value}(hq:s.ok q=true)(hp:∀ n,q n=true→p (ρ n))(gp:∀ n,q n=true→μ (ρ n)=ν n)(h:cI ν M s v):Rp p μ M (s.aC ρ) v:=
 fun aZ hμ'=>(cI.dV s v).2 (cI.congr (fun n hn=>(hμ' _ (hp n hn)).trans (gp n hn)) s v hq h)
theorem aR.to {q:Nat→Bool}{ρ:Nat→Nat}{s:List SV}{v:List Value}(hq:SV.ay q s=true)(hp:∀ n,q n=true→p n)(gp:∀ n,q n=true→ν n=μ (ρ n))(h:bY μ M (SV.aW ρ s) v):aR p ν M s v:=
 aR.zx hq hp (bY.congr gp s v hq ((bY.dV s v).1 h))
theorem aR.back {q:Nat→Bool}{ρ:Nat→Nat}{s:List SV}{v:List Value}(hq:SV.ay q s=true)(hp:∀ n,q n=true→p (ρ n))(gp:∀ n,q n=true→μ (ρ n)=ν n)(h:bY ν M s v):aR p μ M (SV.aW ρ s) v:=
 fun aZ hμ'=>(bY.dV s v).2 (bY.congr (fun n hn=>(hμ' _ (hp n hn)).trans (gp n hn)) s v hq h)
theorem fT.to {q:Nat→Bool}{ρ:Nat→Nat}(hp:∀ n,q n=true→p n)(gp:∀ n,q n=true→ν n=μ (ρ n)):∀ (es:List (Nat×SV×SV)) (c_:List MapEntry),(es.all fun e=>e.2.1.ok q && e.2.2.ok q)=true→
  fT p' μ M (es.map fun e=>(e.1,e.2.1.aC ρ,e.2.2.aC ρ)) c_→fT p ν M es c_
 | [],c_,_,h=>h
 | (b,k,v)::es,c_,hq,h=>by
  simp only [List.all_cons,Bool.and_eq_true] at hq
  obtain ⟨e,es',rfl,h2,h3,h4,h5⟩:=h
  exact ⟨e,es',rfl,h2,Rp.to hq.1.1 hp gp h3.rep,Rp.to hq.1.2 hp gp h4.rep,fT.to hp gp es es' (by simpa using hq.2) h5⟩
theorem fT.back {q:Nat→Bool}{ρ:Nat→Nat}(hp:∀ n,q n=true→p (ρ n))(gp:∀ n,q n=true→μ (ρ n)=ν n):∀ (es:List (Nat×SV×SV)) (c_:List MapEntry),(es.all fun e=>e.2.1.ok q && e.2.2.ok q)=true→
  fT p' ν M es c_→fT p μ M (es.map fun e=>(e.1,e.2.1.aC ρ,e.2.2.aC ρ)) c_
 | [],c_,_,h=>h
 | (b,k,v)::es,c_,hq,h=>by
  simp only [List.all_cons,Bool.and_eq_true] at hq
  obtain ⟨e,es',rfl,h2,h3,h4,h5⟩:=h
  exact ⟨e,es',rfl,h2,Rp.back hq.1.1 hp gp h3.rep,Rp.back hq.1.2 hp gp h4.rep,fT.back hp gp es es' (by simpa using hq.2) h5⟩
theorem bW.to {w:World}{q:Nat→Bool}{ρ:Nat→Nat}{m:Nm}{ob:Ob}(hq:ob.ok q=true)(hp:∀ n,q n=true→p n)(gp:∀ n,q n=true→ν n=μ (ρ n))(h:bW p' μ M w m (ob.aC ρ)):bW p ν M w m ob:=by
 cases ob <;> simp only [bW,Ob.aC,Ob.ok] at h hq ⊢
 case box=>obtain ⟨h0,vs,h1,h2⟩:=h;exact ⟨h0,vs,h1,aR.to hq hp gp h2.ug⟩
 case arr=>
  have hl:∀ (l:List SV),(SV.aW ρ l).length=l.length:=fun l=>by induction l <;> simp_all [SV.aW]
  rcases h with ⟨a1,a2,a3⟩ | ⟨h0,vs,h1,h2,h3,h4,h5,h6⟩
  ·exact .inl ⟨a1,a2,List.eq_nil_of_length_eq_zero (by rw [← hl,a3];rfl)⟩
  exact .inr ⟨h0,vs,h1,by rw [← h2,hl],h3,h4,h5,aR.to hq hp gp h6.ug⟩
 case map=>obtain ⟨h0,c_,h1,h2⟩:=h;exact ⟨h0,c_,h1,fT.to hp gp _ _ hq h2⟩
 case fu=>exact h
 case iter mo a b c=>
  cases mo with
  | none=>exact ⟨h.1,fun n hn=>(by cases hn),by simpa using h.2.2⟩
  | some n=>
   refine ⟨h.1,fun n' hn=>by injection hn with hn;subst hn;exact hp n hq,?_⟩
   simp only [Option.map_some] at h ⊢
   rw [gp n hq];exact h.2.2
 case kJ=>obtain ⟨h0,r,h1,h2,h3⟩:=h;exact ⟨h0,r,h1,aR.to hq hp gp h2.ug,h3⟩
theorem bW.back {w:World}{q:Nat→Bool}{ρ:Nat→Nat}{m:Nm}{ob:Ob}(hq:ob.ok q=true)(hp:∀ n,q n=true→p (ρ n))(gp:∀ n,q n=true→μ (ρ n)=ν n)(h:bW p' ν M w m ob):bW p μ M w m (ob.aC ρ):=by
 cases ob <;> simp only [bW,Ob.aC,Ob.ok] at h hq ⊢
 case box=>obtain ⟨h0,vs,h1,h2⟩:=h;exact ⟨h0,vs,h1,aR.back hq hp gp h2.ug⟩
 case arr=>
  have hl:∀ (l:List SV),(SV.aW ρ l).length=l.length:=fun l=>by induction l <;> simp_all [SV.aW]
  rcases h with ⟨a1,a2,a3⟩ | ⟨h0,vs,h1,h2,h3,h4,h5,h6⟩
  ·exact .inl ⟨a1,a2,by rw [a3];rfl⟩
  exact .inr ⟨h0,vs,h1,by rw [hl,h2],h3,h4,h5,aR.back hq hp gp h6.ug⟩
 case map=>obtain ⟨h0,c_,h1,h2⟩:=h;exact ⟨h0,c_,h1,fT.back hp gp _ _ hq h2⟩
 case fu=>exact h
 case iter mo a b c=>
  cases mo with
  | none=>exact ⟨h.1,fun n hn=>(by cases hn),by simpa using h.2.2⟩
  | some n=>
   refine ⟨h.1,fun n' hn=>by simp at hn;subst hn;exact hp n hq,?_⟩
   simp only [Option.map_some] at h ⊢
   rw [gp n hq];exact h.2.2
 case kJ=>obtain ⟨h0,r,h1,h2,h3⟩:=h;exact ⟨h0,r,h1,aR.back hq hp gp h2.ug,h3⟩
end
theorem iC:∀ {h:Hp} {n:Nat} {ob:Ob},lk h n=some ob→(n,ob)∈h
 | [],n,ob,h=>by simp [bt] at h
 | (m,o)::h,n,ob,hh=>by
  rw [aa] at hh
  split at hh
  ·rename_i e
   injection hh with hh
   subst hh;subst e
   simp
  ·exact List.mem_cons_of_mem _ (iC hh)
theorem Hp.dH {q:Nat→Bool}{h:Hp}(hq:h.ok q=true){n:Nat}{ob:Ob}(hl:lk h n=some ob):q n=true∧ob.ok q=true:=by
 have:=List.all_eq_true.1 hq _ (iC hl)
 simpa using this
theorem ym {ρ:Nat→Nat}{h:Hp}{q:Nat→Bool}(hq:h.ok q=true)(hinj:∀ n m,q n=true→q m=true→ρ n=ρ m→n=m){n:Nat}(hn:q n=true):lk (h.aC ρ) (ρ n)=(lk h n).map (Ob.aC ρ):=by
 induction h with
 | nil=>rfl
 | cons x h ih=>
  obtain ⟨m,o⟩:=x
  simp only [Hp.ok,List.all_cons,Bool.and_eq_true] at hq
  simp only [Hp.aC,List.map_cons]
  rw [aa,aa]
  by_cases e:n=m
  ·subst e;simp
  ·rw [if_neg e,if_neg (fun h=>e (hinj n m hn hq.1.1 h))]
   exact ih (by simpa [Hp.ok] using hq.2)
theorem rA {ρ:Nat→Nat}{h:Hp}{m:Nat}{ob:Ob}(hl:lk (h.aC ρ) m=some ob):∃ n jw,(n,jw)∈h∧m=ρ n∧ob=jw.aC ρ:=by
 obtain ⟨⟨n,jw⟩,h1,h2⟩:=List.mem_map.1 (iC hl)
 simp at h2
 exact ⟨n,jw,h1,h2.1.symm,h2.2.symm⟩
def SB (P:Program)(f:FuncId)(args:List SV)(F:Hp)(k nk:Nat)(Q:SV→Hp→Prop):Prop:=
 je P f=true∧SV.ay (fun n=>decide (n<k)) args=true∧F.ok (fun n=>decide (n<k))=true∧
 ∀ (μ:Nat→Nm) (M:Mem) (w:World) (vals:Array Value),aR (· <k) μ M args vals.toList→bK (· <k) μ M (lk F) w→
  Calls P f vals w fun e w'=>∃ r F' aZ M' u,e= .returned u∧Q r F'∧r.ok (fun n=>decide (n<k+nk))=true∧F'.ok (fun n=>decide (n<k+nk))=true∧cI aZ M' r u∧bK (· <k+nk) aZ M' (lk F') w'∧
   Ev (lk F) (fun n=>k≤n∧n<k+nk) μ M w (lk F') aZ M' w'
theorem zy {args:List SV}{F:Hp}{k nk:Nat}{Q:SV→Hp→Prop}(hao:SV.ay (fun n=>decide (n<k)) args=true)(Bx:F.ok (fun n=>decide (n<k))=true)(ρ:Nat→Nat)(k':Nat)(hinj:∀ n m,n<k→m<k→ρ n=ρ m→n=m)
    (hnew:∀ i,i<nk→ρ (k+i)=k'+i) {p:Nat→Prop} {μ:Nat→Nm} {M:Mem} {w:World} {vals:Array Value} (hp:∀ n,(k'≤n∧n<k'+nk)→ ¬ p n) (hpk:∀ n,n<k→p (ρ n)) (hr:aR p μ M (SV.aW ρ args) vals.toList) (hS:bK p μ M (lk (F.aC ρ)) w):
    aR (· <k) (fun n=>μ (ρ n)) M args vals.toList∧bK (· <k) (fun n=>μ (ρ n)) M (lk F) w∧∀ e w',
      (∃ r F' aZ M' u,e=Ending.returned u∧Q r F'∧r.ok (fun n=>decide (n<k+nk))=true∧F'.ok (fun n=>decide (n<k+nk))=true∧cI aZ M' r u∧bK (· <k+nk) aZ M' (lk F') w'∧
        Ev (lk F) (fun n=>k≤n∧n<k+nk) (fun n=>μ (ρ n)) M w (lk F') aZ M' w')→
      ∃ r F' aZ M' u,e=Ending.returned u∧(∃ r0 F0,Q r0 F0∧r=r0.aC ρ∧F'=F0.aC ρ)∧Rp (fun n=>p n∨(k'≤n∧n<k'+nk)) aZ M' r u∧bK (fun n=>p n∨(k'≤n∧n<k'+nk)) aZ M' (lk F') w'∧
        Ev (lk (F.aC ρ)) (fun n=>k'≤n∧n<k'+nk) μ M w (lk F') aZ M' w':=by
  have hq1:∀ n,decide (n<k)=true→n<k:=fun n h=>by simpa using h
  have hlt:∀ n m,n<k→k≤m→m<k+nk→ρ n≠ρ m:=fun n m hn hm hm' e=>by
    have h1:=hnew (m - k) (by omega)
    rw [show k+(m - k)=m by omega] at h1
    exact hp (ρ n) (by rw [e,h1];omega) (hpk n hn)
  have hin:∀ n m,n<k+nk→m<k+nk→ρ n=ρ m→n=m:=fun n m hn hm e=>by
    by_cases h1:n<k <;> by_cases h2:m<k
    · exact hinj n m h1 h2 e
    · exact absurd e (hlt n m h1 (by omega) hm)
    · exact absurd e.symm (hlt m n h2 (by omega) hn)
    · have a1:=hnew (n - k) (by omega)
      have a2:=hnew (m - k) (by omega)
      rw [show k+(n - k)=n by omega] at a1
      rw [show k+(m - k)=m by omega] at a2
      omega
  have hr':aR (· <k) (fun n=>μ (ρ n)) M args vals.toList:=aR.to hao hq1 (fun n _=>rfl) hr.ug
  have hF:∀ n,n<k→lk (F.aC ρ) (ρ n)=(lk F n).map (Ob.aC ρ):=fun n hn=>ym Bx (fun a b ha hb=>hinj a b (hq1 a ha) (hq1 b hb)) (by simpa using hn)
  have hFlt:∀ n,lk F n≠none→n<k:=fun n hn=>by
    obtain ⟨ob,bn⟩:=Option.ne_none_iff_exists'.1 hn
    exact hq1 n (Hp.dH Bx bn).1
  have rJ:bK (· <k) (fun n=>μ (ρ n)) M (lk F) w:=by
    refine ⟨hS.mem,fun n ob hn=> ?_,fun n m hn hm ln lm e=> ?_⟩
    · obtain ⟨q1,q2⟩:=Hp.dH Bx hn
      have hnk:=hq1 n q1
      have:=hF n hnk
      rw [hn] at this
      obtain ⟨_,b1,b2⟩:=hS.obs (ρ n) (ob.aC ρ) this
      exact ⟨hnk,b1.to q2 hq1 (fun n _=>rfl),b2⟩
    · have h1:=hFlt n hn
      have h2:=hFlt m hm
      refine hinj n m h1 h2 (hS.inj (ρ n) (ρ m) ?_ ?_ ln lm e)
      · rw [hF n h1];simpa using hn
      · rw [hF m h2];simpa using hm
  refine ⟨hr',rJ,?_⟩
  rintro e w' ⟨r,F',aZ,M',u,rfl,hQ,hro,hFo',hru,hS2,hE⟩
  have hq2:∀ n,decide (n<k+nk)=true→n<k+nk:=fun n h=>by simpa using h
  -- the caller's reading of the new names
  let μx:Nat→Nm:=fun m=>if k'≤m∧m<k'+nk then aZ (k+(m - k')) else μ m
  have hx:∀ n,n<k+nk→μx (ρ n)=aZ n:=fun n hn=>by
    by_cases h1:n<k
    · have: ¬ (k'≤ρ n∧ρ n<k'+nk):=fun hh=>hp (ρ n) hh (hpk n h1)
      simp only [μx,this,if_false]
      exact (hE.old n (by omega)).symm
    · have a1:=hnew (n - k) (by omega)
      rw [show k+(n - k)=n by omega] at a1
      simp only [μx]
      rw [a1,if_pos (by omega)]
      congr 1
      omega
  have hpx:∀ n,n<k+nk→(p (ρ n)∨(k'≤ρ n∧ρ n<k'+nk)):=fun n hn=>by
    by_cases h1:n<k
    · exact .inl (hpk n h1)
    · have a1:=hnew (n - k) (by omega)
      rw [show k+(n - k)=n by omega] at a1
      exact .inr (by omega)
  have hF2:∀ n,n<k+nk→lk (F'.aC ρ) (ρ n)=(lk F' n).map (Ob.aC ρ):=fun n hn=>ym hFo' (fun a b ha hb=>hin a b (hq2 a ha) (hq2 b hb)) (by simpa using hn)
  have hlkF':∀ m ob,lk (F'.aC ρ) m=some ob→∃ n jw,n<k+nk∧m=ρ n∧ob=jw.aC ρ∧lk F' n=some jw∧jw.ok (fun n=>decide (n<k+nk))=true:=by
    intro m ob hm
    obtain ⟨n,jw,h1,rfl,rfl⟩:=rA hm
    have hn:n<k+nk:=by
      have:=List.all_eq_true.1 hFo' _ h1
      simp at this
      exact this.1
    rw [hF2 n hn] at hm
    obtain ⟨EN,h2,h3⟩:=Option.map_eq_some_iff.1 hm
    exact ⟨n,EN,hn,rfl,h3.symm,h2,(Hp.dH hFo' h2).2⟩
  refine ⟨r.aC ρ,F'.aC ρ,μx,M',u,rfl,⟨r,F',hQ,rfl,rfl⟩,Rp.back hro (fun n hn=>hpx n (hq2 n hn)) (fun n hn=>hx n (hq2 n hn)) hru,⟨hS2.mem,fun m ob hm=> ?_,fun a b ha hb la lb e=> ?_⟩,⟨fun m hm=> ?_,hE.mem,fun b hb hf=> ?_,hE.size,fun m hm=> ?_,hE.os,hE.tape,hE.output⟩⟩
  · obtain ⟨n,jw,hn,rfl,rfl,hl,hok⟩:=hlkF' m ob hm
    obtain ⟨_,b1,b2⟩:=hS2.obs n jw hl
    rw [hx n hn]
    exact ⟨hpx n hn,b1.back hok (fun n hn=>hpx n (hq2 n hn)) (fun n hn=>hx n (hq2 n hn)),b2⟩
  · obtain ⟨oa,hoa⟩:=Option.ne_none_iff_exists'.1 ha
    obtain ⟨ob,bn⟩:=Option.ne_none_iff_exists'.1 hb
    obtain ⟨n,_,hn,rfl,_,hl,_⟩:=hlkF' a oa hoa
    obtain ⟨m,_,hm,rfl,_,hl',_⟩:=hlkF' b ob bn
    rw [hx n hn] at e la
    rw [hx m hm] at e lb
    rw [hS2.inj n m (by rw [hl];simp) (by rw [hl'];simp) la lb e]
  · simp only [μx]
    rw [if_neg hm]
  · refine hE.frame b hb fun n hn=> ?_
    have h1:=hFlt n hn
    exact hf (ρ n) (by rw [hF n h1];simpa using hn)
  · obtain ⟨ob,bn⟩:=Option.ne_none_iff_exists'.1 hm
    obtain ⟨n,_,hn,rfl,_,hl,_⟩:=hlkF' m ob bn
    rw [hx n hn]
    rcases hE.names n (by rw [hl];simp) with ⟨⟨h1,h2⟩,h3⟩ | ⟨h1,h2⟩
    · have a1:=hnew (n - k) (by omega)
      rw [show k+(n - k)=n by omega] at a1
      refine .inl ⟨by omega,fun ln=> ?_⟩
      rcases h3 ln with h3 | ⟨q,hq,lq,e⟩
      · exact .inl h3
      · have hqk:=hFlt q hq
        exact .inr ⟨ρ q,by rw [hF q hqk];simpa using hq,lq,e⟩
    · have h3:=hFlt n h2
      refine .inr ⟨fun hh=>hp (ρ n) hh (hpk n h3),by rw [hF n h3];simpa using h2⟩
theorem SB.at {P:Program}{f:FuncId}{args:List SV}{F:Hp}{k nk:Nat}{Q:SV→Hp→Prop}(h:SB P f args F k nk Q)(ρ:Nat→Nat)(k':Nat)(hinj:∀ n m,n<k→m<k→ρ n=ρ m→n=m)
  (hargs:∀ n,n<k→∀ (p:Nat→Prop) μ M w vals,aR p μ M (SV.aW ρ args) vals→bK p μ M (lk (F.aC ρ)) w→p (ρ n)) (hnew:∀ i,i<nk→ρ (k+i)=k'+i):
  SC P f (SV.aW ρ args) (F.aC ρ) k' nk fun r F'=>∃ r0 F0,Q r0 F0∧r=r0.aC ρ∧F'=F0.aC ρ:=by
 refine ⟨h.1,fun p μ M w vals hp hr hS=> ?_⟩
 obtain ⟨h1,h2,h3⟩:=zy (Q:=Q) h.2.1 h.2.2.1 ρ k' hinj hnew hp (fun n hn=>hargs n hn p μ M w _ hr hS) hr hS
 exact (h.2.2.2 _ M w vals h1 h2).mono h3
def wL (P:Program)(nl:Nat)(args:List SV)(F:Hp)(k nk:Nat)(Q:SV→Hp→Prop):Prop:=
 SV.ay (fun n=>decide (n<k)) args=true∧F.ok (fun n=>decide (n<k))=true∧
 ∀ (μ:Nat→Nm) (M:Mem) (w:World) (vals:Array Value),aR (· <k) μ M args vals.toList→bK (· <k) μ M (lk F) w→
  BR P (μ nl).blk vals w fun e w'=>∃ r F' aZ M' u,e= .returned u∧Q r F'∧r.ok (fun n=>decide (n<k+nk))=true∧F'.ok (fun n=>decide (n<k+nk))=true∧cI aZ M' r u∧bK (· <k+nk) aZ M' (lk F') w'∧
   Ev (lk F) (fun n=>k≤n∧n<k+nk) μ M w (lk F') aZ M' w'
end
section
def jy:Obj→Bool
 | .deferred _=>true
 | _=>false
def Marks (w0 w:World):List Deferred→Prop
 | []=>True
 | d::ds=>(∃ r,d=⟨.collected r,#[]⟩∧w0.heap.size≤r∧w.heap[r]? =some (.deferred (some []))∧∀ d',d'∈ds→d'≠⟨.collected r,#[]⟩)∧Marks w0 w ds
theorem bK.not {p:Nat→Prop}{μ:Nat→Nm}{M:Mem}{c:Nat→Option Ob}{w:World}(hS:bK p μ M c w){b:Nat}{x:Obj}(hx:w.heap[b]? =some x)(hf:jy x=true):∀ n,c n≠none→(μ n).live=true→(μ n).blk≠b:=by
 intro n hn hl e
 obtain ⟨ob,ho⟩:=Option.ne_none_iff_exists'.1 hn
 have h:=(hS.obs n ob ho).2.1
 subst e
 cases ob <;> simp only [bW] at h
 ·obtain ⟨_,_,h,_⟩:=h;rw [hx] at h;injection h with h;subst h;simp [jy] at hf
 ·rcases h with ⟨h,_⟩ | ⟨_,_,h,_⟩
  ·rw [hl] at h;cases h
  ·rw [hx] at h;injection h with h;subst h;simp [jy] at hf
 ·obtain ⟨_,_,h,_⟩:=h;rw [hx] at h;injection h with h;subst h;simp [jy] at hf
 ·rw [hl] at h;cases h
 ·obtain ⟨_,_,h⟩:=h;rw [hx] at h;injection h with h;subst h;simp [jy] at hf
 ·obtain ⟨_,_,h,_⟩:=h;rw [hx] at h;injection h with h;subst h;simp [jy] at hf
theorem Ev.keeps {c c':Nat→Option Ob}{new p:Nat→Prop}{μ aZ:Nat→Nm}{M M':Mem}{w w':World}(hE:Ev c new μ M w c' aZ M' w')(hS:bK p μ M c w){b:Nat}{x:Obj}(hx:w.heap[b]? =some x)(hf:jy x=true):w'.heap[b]? =some x:=by
 rw [(hE.frame b (Array.getElem?_eq_some_iff.1 hx).1 (hS.not hx hf)).1];exact hx
theorem Marks.ev {c c':Nat→Option Ob}{new p:Nat→Prop}{μ aZ:Nat→Nm}{M M':Mem}{w0 w w':World}:∀ {df:List Deferred},Marks w0 w df→bK p μ M c w→Ev c new μ M w c' aZ M' w'→Marks w0 w' df
 | [],_,_,_=>trivial
 | d::ds,⟨⟨r,h1,h2,h3,h4⟩,h5⟩,hS,hE=>⟨⟨r,h1,h2,hE.keeps hS h3 rfl,h4⟩,Marks.ev h5 hS hE⟩
def gH (N:Nat)(cE:Nat→Nm)(M0:Mem)(w0:World)(c0:Nat→Option Ob)(k0:Nat)(st:St)(a:Act)(w:World):Prop:=
 k0≤st.k∧Marks w0 w a.defers∧a.tmps.size=N∧
 ∃ μ M,(∀ t s,st.env.lookup t=some s→Rp (· <st.k) μ M s (a.tmps.getD t undef))∧bK (· <st.k) μ M (lk st.hp) w∧
  Ev c0 (fun n=>k0≤n∧n<st.k) cE M0 w0 (lk st.hp) μ M w
def Ht:kH:=⟨.any,[],[],0,True⟩
section
variable {P:Program}
theorem fI {ops:Array Oper}{o:Oper}{si:SI}(h:oz P ops o=some si):cO P o.op=some si.op∧si.dst=o.dst∧((o.guard=none∧si.g=none)∨∃ j w t,o.guard=some (j,w)∧fz ops j=some t∧si.g=some (t,w)):=by
 unfold oz at h
 split at h <;> first | (cases h;done) | skip
 rename_i so hso
 split at h
 ·rename_i hg
  injection h with h
  subst h
  exact ⟨hso,rfl,.inl ⟨hg,rfl⟩⟩
 ·rename_i j w hg
  split at h <;> first | (cases h;done) | skip
  rename_i t ht
  injection h with h
  subst h
  exact ⟨hso,rfl,.inr ⟨j,w,t,hg,ht,rfl⟩⟩
theorem oM {ops:Array Oper}{o:Oper}{st:St}{si:SI}{c1 c2:List CR}{e:kH}(hc:oz P ops o=some si)(h:eW P st si c1=some (e,c2))(bn:e.ob):
  qv P ops (fun t=>st.env.lookup t) (lk st.hp) st.k o e∧(cg si.op=true→e.F'=e.F)∧HSub e.F st.hp:=by
 obtain ⟨h1,h2,h3⟩:=fI hc
 unfold eW at h
 rcases h3 with ⟨hg,hs⟩ | ⟨j,w,t,hg,ht,hs⟩
 ·simp only [hs] at h
  obtain ⟨a1,a2⟩:=sQ (ops:=ops) h1 h bn
  exact ⟨.inr ⟨.inl hg,a1⟩,a2,a1.2⟩
 ·simp only [hs] at h
  split at h <;> first | (cases h;done) | skip
  ·rename_i b hb
   split at h
   ·rename_i hbw
    have hbw:b=w:=by simpa using hbw
    subst hbw
    obtain ⟨a1,a2⟩:=sQ (ops:=ops) h1 h bn
    exact ⟨.inr ⟨.inr ⟨j,b,t,hg,ht,hb⟩,a1⟩,a2,a1.2⟩
   ·rename_i hbw
    injection h with h
    injection h with h h'
    subst h
    exact ⟨.inl ⟨j,w,t,_,hg,ht,hb,by simpa [kN] using hbw,rfl,rfl,rfl,rfl⟩,fun _=>rfl,fun n ob hn=>by simp [bt] at hn⟩
  ·rename_i hb
   injection h with h
   injection h with h h'
   subst h
   exact ⟨.inl ⟨j,w,t,_,hg,ht,hb,rfl,rfl,rfl,rfl,rfl⟩,fun _=>rfl,fun n ob hn=>by simp [bt] at hn⟩
theorem xb:∀ (cH:List SI) (st:St) (es:List kH) (i:Nat),es.length≤i→jf cH st es (i+1)=jf cH st es i
 | [],st,es,i,_=>by simp [jf]
 | si::r,st,[],i,_=>by simp [jf]
 | si::r,st,e::es,0,h=>by simp at h
 | si::r,st,e::es,i+1,h=>by
  simp only [jf]
  exact xb r _ es i (by simpa using h)
theorem xd {id:Nat}{ops:Array Oper}{draw:Bool}{N:Nat}{cH:List SI}{bs:List Nat}{st st':St}{de:List CR}{ob:Prop}{ts:List (Bool×List Nat)}
    (hc:BS P N ops draw=some (cH,bs)) (hrun:runs P cH st de=some (st',ob,ts)) (bn:ob) (BU:draw=true→ku bs ts=true) (hm:P.follows .mixedOrders=true)
    {cE:Nat→Nm} {M0:Mem} {w0:World} {c0:Nat→Option Ob} {k0:Nat} {rd:Option Nat} {a:Act} {w:World} (eO:gH N cE M0 w0 c0 k0 st a w) {Q:Exit→Act→World→Prop}
    (hQ:∀ a' w',gH N cE M0 w0 c0 k0 st' a' w'→Q .normal a' w'):(Code.region id ops draw).wpIn (jc rd) 0 P Q a w:=by
  obtain ⟨mH,hdf,hsz,μ,M,fQ,hS,hE⟩:=eO
  unfold BS at hc
  split at hc <;> first | (cases hc;done) | skip
  rename_i sis' hsis
  split at hc <;> first | (cases hc;done) | skip
  rename_i hchk
  injection hc with hc
  injection hc with hc1 EG
  subst hc1
  rw [EG] at hchk
  simp only [Bool.and_eq_true] at hchk
  obtain ⟨⟨hok,hslots⟩,hin⟩:=hchk
  obtain ⟨hlen,jL⟩:=lU hsis
  obtain ⟨tl,tts,tob,tst⟩:=pE hrun
  have hes:=tob bn
  generalize hesd:trace P sis' st de=es at*
  have hn:ops.size=sis'.length:=by simpa using hlen
  have facts:∀ i,i<ops.size→∃ o si e,ops[i]? =some o∧sis'[i]? =some si∧es[i]? =some e∧oz P ops o=some si∧qv P ops (fun t=>(jf sis' st es i).env.lookup t) (lk (jf sis' st es i).hp) (jf sis' st es i).k o e∧
      (cg si.op=true→e.F'=e.F)∧HSub e.F (jf sis' st es i).hp:=by
    intro i hi
    obtain ⟨si,h1,h2⟩:=jL i ops[i] (by simp [hi])
    have h3:es[i]? =some (es[i]'(by omega)):=List.getElem?_eq_getElem (by omega)
    obtain ⟨c1,c2,h4⟩:=sP (P:=P) (st:=st) (de:=de) h1 (by rw [hesd];exact h3)
    rw [hesd] at h4
    obtain ⟨b1,b2,b3⟩:=oM h2 h4 (hes _ (List.getElem_mem _))
    exact ⟨ops[i],si,_,Array.getElem?_eq_getElem hi,h1,h3,h2,b1,b2,b3⟩
  let cq:Nat→kH:=fun i=>es.getD i Ht
  let ro:Nat→Bool:=fun i=>((sis'[i]?).map fun s=>cg s.op).getD true
  let kk:Nat→Nat:=fun i=>(jf sis' st es i).k
  have heff:∀ {i e},es[i]? =some e→cq i=e:=fun h=>by simp [cq,List.getD_eq_getElem?_getD,h]
  have hro:∀ {i si},sis'[i]? =some si→ro i=cg si.op:=fun h=>by simp [ro,h]
  have hdst:∀ {i o},ops[i]? =some o→fz ops i=o.dst:=fun h=>by simp [fz,h]
  have hst0:jf sis' st es 0=st:=by cases sis' <;> cases es <;> rfl
  have hslotS:∀ i,i≤ops.size→∀ t,gu ops (fun t=>st.env.lookup t) cq (fun _=>true) i t=(jf sis' st es i).env.lookup t:=by
    intro i
    induction i with
    | zero=>intro _ t;rw [hst0];rfl
    | succ i ih=>
      intro hi t
      obtain ⟨o,si,e,f1,f2,f3,f4,_⟩:=facts i (by omega)
      obtain ⟨_,g2,_⟩:=fI f4
      rw [ni sis' st es i si e f2 f3]
      simp only [gu,pick,Bool.true_and,hdst f1,heff f3]
      have ih':=ih (by omega) t
      simp only [gu] at ih'
      simp only [Bool.true_and] at ih'
      simp only [kr,g2]
      cases hod:o.dst with
      | none=>simpa using ih'
      | some d=>
        simp only
        rw [lT]
        by_cases hd:d=t
        · subst hd;simp
        · simp [hd,ih']
  have hcontS:∀ i,i≤ops.size→eB (lk st.hp) cq ro (fun _=>true) i=lk (jf sis' st es i).hp:=by
    intro i
    induction i with
    | zero=>intro _;rw [hst0];rfl
    | succ i ih=>
      intro hi
      obtain ⟨o,si,e,f1,f2,f3,f4,_,f6,f7⟩:=facts i (by omega)
      rw [ni sis' st es i si e f2 f3]
      simp only [kr]
      rw [fA f7 f6]
      funext h_
      have ih':=congrFun (ih (by omega)) h_
      simp only [eB,Bool.true_and] at ih'
      simp only [eB,pick,Bool.true_and,hro f2,heff f3]
      cases hr:cg si.op with
      | true=>
        rw [f6 hr]
        simp only [Bool.not_true,Bool.false_and,Bool.false_eq_true,if_false]
        rw [ih']
        by_cases h1:lk e.F h_=none
        · rw [cM h1 h1]
        · rw [dN (.inl h1)]
          obtain ⟨ob,bn⟩:=Option.ne_none_iff_exists'.1 h1
          rw [bn];exact f7 h_ ob bn
      | false=>
        have htc:iu cq i h_=((lk e.F h_).isSome || (lk e.F' h_).isSome):=by simp only [iu,heff f3]
        simp only [Bool.not_false,Bool.true_and,htc]
        unfold ya
        split
        · rfl
        · exact ih'
  have hkS:∀ i,kk (i+1)=kk i+(cq i).nk:=by
    intro i
    by_cases hi:i<ops.size
    · obtain ⟨o,si,e,f1,f2,f3,_⟩:=facts i hi
      simp only [kk]
      rw [ni sis' st es i si e f2 f3,heff f3]
      rfl
    · simp only [kk]
      rw [xb sis' st es i (by omega)]
      have:cq i=Ht:=by simp [cq,List.getD_eq_getElem?_getD,List.getElem?_eq_none (show es.length≤i by omega)]
      rw [this];rfl
  have htouch:∀ i h_,i<ops.size→ro i=false∨True→iu cq i h_=true→h_∈(ts.getD i (true,[])).2:=by
    intro i h_ hi _ ht
    obtain ⟨o,si,e,f1,f2,f3,_⟩:=facts i hi
    have:ts[i]? =some (gh si e):=by rw [tts];simp [List.getElem?_zipWith,f2,f3]
    rw [List.getD_eq_getElem?_getD,this]
    simp only [Option.getD_some,gh,List.mem_append,List.mem_map]
    simp only [iu,heff f3,Bool.or_eq_true,Option.isSome_iff_exists] at ht
    rcases ht with ⟨ob,h⟩ | ⟨ob,h⟩
    · exact .inl ⟨(h_,ob),iC h,rfl⟩
    · exact .inr ⟨(h_,ob),iC h,rfl⟩
  have htro:∀ i,i<ops.size→(ts.getD i (true,[])).1=ro i:=by
    intro i hi
    obtain ⟨o,si,e,f1,f2,f3,_⟩:=facts i hi
    have:ts[i]? =some (gh si e):=by rw [tts];simp [List.getElem?_zipWith,f2,f3]
    rw [List.getD_eq_getElem?_getD,this,hro f2]
    rfl
  have hR :RG P ops bs N (fun t=>st.env.lookup t) (lk st.hp) st.k cq ro kk:=by
    refine ⟨hslots,fun i d hd=> ?_,by simp only [kk];rw [hst0],hkS,fun i j h_ hi hj hij hri EE htj=> ?_,fun i hi=> ?_⟩
    · have hi:i<ops.size:=by
        unfold fz at hd
        rcases Nat.lt_or_ge i ops.size with h | h
        · exact h
        · rw [Array.getElem?_eq_none h] at hd;cases hd
      obtain ⟨o,si,e,f1,f2,f3,f4,_⟩:=facts i hi
      obtain ⟨_,g2,_⟩:=fI f4
      rw [hdst f1] at hd
      have:=List.all_eq_true.1 hin si (List.mem_of_getElem? f2)
      rw [g2,hd] at this
      simpa using this
    · cases hd:draw with
      | false=>
        rw [hd] at EG
        simp only [E5,Bool.false_eq_true,if_false] at EG
        rw [← EG]
        rcases Nat.lt_or_ge i j with h | h
        · exact .inl (uM hj h)
        · exact .inr (uM hi (by omega))
      | true=>
        have hnc:=BU hd
        unfold ku at hnc
        have hl:ts.length=ops.size:=by rw [tts];simp;omega
        have:=ng hnc (i:=i) (j:=j) (by omega) (by omega)
        simp only [Bool.or_eq_true,beq_iff_eq,hij,false_or,htro i hi,hri,Bool.not_eq_true',Bool.false_eq_true] at this
        have hany:((ts.getD i (true,[])).2.any fun n=>(ts.getD j (true,[])).2.contains n)=true:=by
          refine List.any_eq_true.2 ⟨h_,htouch i h_ hi (.inr trivial) EE,?_⟩
          simpa using htouch j h_ hj (.inr trivial) htj
        rw [hany] at this
        simpa using this
    · by_cases hii:i<ops.size
      · obtain ⟨o,si,e,f1,f2,f3,f4,_,f6,_⟩:=facts i hii
        rw [hro f2] at hi
        rw [heff f3]
        exact f6 hi
      · have:cq i=Ht:=by simp [cq,List.getD_eq_getElem?_getD,List.getElem?_eq_none (show es.length≤i by omega)]
        rw [this];rfl
  have hsteps:∀ (i:Nat) (o:Oper),ops[i]? =some o→qv P ops (gu ops (fun t=>st.env.lookup t) cq (fun _=>true) i) (eB (lk st.hp) cq ro (fun _=>true) i) (kk i) o (cq i):=by
    intro i o ho
    have hi:i<ops.size:=(Array.getElem?_eq_some_iff.1 ho).1
    obtain ⟨o',si,e,f1,f2,f3,f4,f5,_⟩:=facts i hi
    rw [f1] at ho;injection ho with ho;subst ho
    rw [heff f3,hcontS i (by omega),show gu ops (fun t=>st.env.lookup t) cq (fun _=>true) i=fun t=>(jf sis' st es i).env.lookup t from funext fun t=>hslotS i (by omega) t]
    exact f5
  have hend:st'=jf sis' st es ops.size:=by rw [tst,hn]
  have hmono:∀ i,st.k≤kk i:=fun i=>by
    have:=hR.mono (Nat.zero_le i)
    rw [hR.KE] at this;exact this
  have hfinal :∀ a' w',Inv ops N (fun t=>st.env.lookup t) (lk st.hp) st.k cq ro kk μ M w a.defers (fun _=>true) a' w'→Q .normal a' w':=by
    intro a' w' hI
    obtain ⟨⟨aZ,M',h1,h2,h3⟩,h4,h5⟩:=hI
    have hp : pD ops st.k cq kk (fun _=>true)=(· <st'.k):=by
      funext n
      apply propext
      rw [hend]
      have key:∀ i,i≤ops.size→∀ n,(n<st.k∨∃ j,j<i∧kk j≤n∧n<kk j+(cq j).nk)↔n<kk i:=by
        intro i
        induction i with
        | zero=>intro _ n;rw [hR.KE];exact ⟨fun h=>h.elim (fun h=>h) fun ⟨j,hj,_⟩=>by omega,.inl⟩
        | succ i ih=>
          intro hi n
          have:=ih (by omega) n
          rw [hkS]
          constructor
          · rintro (h | ⟨j,hj,h1,h2⟩)
            · have:=this.1 (.inl h);omega
            · by_cases hji:j=i
              · subst hji;exact h2
              · have:=this.1 (.inr ⟨j,by omega,h1,h2⟩);omega
          · intro h
            by_cases hlt:n<kk i
            · rcases this.2 hlt with h | ⟨j,hj,h1,h2⟩
              · exact .inl h
              · exact .inr ⟨j,by omega,h1,h2⟩
            · exact .inr ⟨i,by omega,by omega,h⟩
      have:=key ops.size (Nat.le_refl _) n
      unfold pD rO
      simpa using this
    have hnw:∀ n,rO ops cq kk (fun _=>true) n↔st.k≤n∧n<st'.k:=by
      intro n
      have:=congrFun hp n
      constructor
      · rintro ⟨j,hj,h1,h2,h3⟩
        refine ⟨Nat.le_trans (hmono j) h2,?_⟩
        have h':pD ops st.k cq kk (fun _=>true) n:= .inr ⟨j,hj,h1,h2,h3⟩
        rw [hp] at h';exact h'
      · rintro ⟨h1,h2⟩
        have h':pD ops st.k cq kk (fun _=>true) n:=by rw [hp];exact h2
        rcases h' with h' | h'
        · omega
        · exact h'
    rw [hp] at h1 h2
    rw [hcontS ops.size (Nat.le_refl _),← hend] at h2 h3
    have hk':st.k≤st'.k:=by rw [hend];exact hmono _
    refine hQ a' w' ⟨by omega,by rw [h4];exact hdf.ev hS h3,h5,aZ,M',fun t s h=>h1 t s ?_,h2,(hE.trans h3).rW fun n=> ?_⟩
    · rw [hslotS ops.size (Nat.le_refl _),← hend];exact h
    · rw [hnw];omega
  have hinit:∀ w1:World,bK (· <st.k) μ M (lk st.hp) w1→Ev (lk st.hp) (fun _=>False) μ M w (lk st.hp) μ M w1→Inv ops N (fun t=>st.env.lookup t) (lk st.hp) st.k cq ro kk μ M w a.defers (fun _=>false) a w1:=by
    intro w1 uc ou
    have hp:pD ops st.k cq kk (fun _=>false)=(· <st.k):=by
      funext n;apply propext
      unfold pD rO
      simp
    have hc0:eB (lk st.hp) cq ro (fun _=>false) ops.size=lk st.hp:=funext fun h_=>qq fun i _=>by simp
    refine ⟨⟨μ,M,fun t s h=> ?_,by rw [hp,hc0];exact uc,by rw [hc0];exact ou.rW fun n=>by unfold rO;simp⟩,rfl,hsz⟩
    rw [hp]
    refine fQ t s ?_
    rw [← h]
    exact (qq fun i _=>by simp).symm
  cases hd:draw with
  | false=>
    refine wpIn_region ?_
    rw [List.range_eq_range']
    exact hR.E4 hsteps hfinal ops.size 0 a w (by omega) ((hinit w hS (Ev.refl _ _ _ _ _ fun _ _ h=>h)).congr fun j _=>by simp)
  | true=>
    rw [hd] at hok
    simp only [Bool.not_true,Bool.false_or] at hok
    refine wpIn_region_any hm ?_
    refine hR.drawn hok hsteps hfinal ops.size _ a _ (by simp) ?_ (fun j o h=> ?_) ((hinit w.drew hS.drew (Ev.refl _ _ _ _ _ fun _ _ h=>h).drew).congr fun j hj=>by simp [hj])
    · have:∀ n,n≤ops.size→gF (Array.replicate ops.size false) n=n:=by
        intro n
        induction n with
        | zero=>intro _;rfl
        | succ n ih=>intro hn';simp only [gF,ih (by omega)];simp [show n<ops.size by omega]
      exact this _ (Nat.le_refl _)
    · exfalso
      by_cases hj:j<ops.size
      · simp [hj] at h
      · simp [hj] at h
end
end
section
inductive bX where
 | skip
 | ey (cH:List SI) (bs:List Nat) (draw:Bool)
 | seq (a b:bX)
 | cond (x:X) (a b:bX)
 | block (id:Nat) (c:bX)
 | loop (c:bX)
 | exit (id:Nat)
 | ret
 | mL (g:X) (ps:List Nat) (assign body:bX)
def bX.rf:bX→Bool
 | .mL .. =>true
 | .seq a b | .cond _ a b=>a.rf || b.rf
 | .block _ a | .loop a=>a.rf
 | _=>false
def cK (P:Program)(N:Nat):Code→Option bX
 | .skip=>some .skip
 | .region _ ops draw=>match BS P N ops draw with
  | some (cH,bs)=>some (.ey cH bs draw)
  | none=>none
 | .seq a b=>match cK P N a,cK P N b with
  | some a,some b=>some (.seq a b)
  | _,_=>none
 | .cond x a b=>match cX x,cK P N a,cK P N b with
  | some x,some a,some b=>some (.cond x a b)
  | _,_,_=>none
 | .block id c=>(cK P N c).map (.block id)
 | .loop c=>(cK P N c).map .loop
 | .exit id=>some (.exit id)
 | .ret=>some .ret
 | .rangeFunc g ps a b=>match cX g,cK P N a,cK P N b with
  | some g,some a,some b=>some (.mL g ps.toList a b)
  | _,_,_=>none
 | _=>none
def SW (P:Program)(N k0:Nat)(s:bX)(st:St)(Q:Exit→St→Prop):Prop:=
 ∀ c,cK P N c=some s→∀ rd,(s.rf=true→rd=none)→∀ cE M0 w0 c0 a w,gH N cE M0 w0 c0 k0 st a w→c.wpIn (jc rd) 0 P (fun e a' w'=>∃ st',Q e st'∧gH N cE M0 w0 c0 k0 st' a' w') a w
section
variable {P:Program} {N k0:Nat} {st:St} {Q:Exit→St→Prop}
theorem SW.mono {s:bX}{Q':Exit→St→Prop}(h:SW P N k0 s st Q)(hq:∀ e st',Q e st'→Q' e st'):SW P N k0 s st Q':=
 fun c hc rd hrf cE M0 w0 c0 a w eO=>wpIn_mono (h c hc rd hrf cE M0 w0 c0 a w eO) fun e a' w' ⟨st',h1,h2⟩=>⟨st',hq e st' h1,h2⟩
theorem SW.skip (h:Q .normal st):SW P N k0 .skip st Q:=by
 intro c hc rd hrf cE M0 w0 c0 a w eO
 cases c <;> simp only [cK] at hc <;> first
  | (cases hc;done)
  | exact wpIn_skip ⟨st,h,eO⟩
  | (exfalso;split at hc <;> cases hc;done)
  | (exfalso;obtain ⟨_,_,hh⟩:=Option.map_eq_some_iff.1 hc;cases hh;done)
theorem SW.exit {id:Nat}(h:Q (.exit id) st):SW P N k0 (.exit id) st Q:=by
 intro c hc rd hrf cE M0 w0 c0 a w eO
 cases c <;> simp only [cK] at hc <;> first
  | (cases hc;done)
  | (injection hc with hc;injection hc with hc;subst hc;exact wpIn_exit ⟨st,h,eO⟩)
  | (exfalso;split at hc <;> cases hc;done)
  | (exfalso;obtain ⟨_,_,hh⟩:=Option.map_eq_some_iff.1 hc;cases hh;done)
theorem SW.ret (h:Q .ret st):SW P N k0 .ret st Q:=by
 intro c hc rd hrf cE M0 w0 c0 a w eO
 cases c <;> simp only [cK] at hc <;> first
  | (cases hc;done)
  | exact wpIn_ret ⟨st,h,eO⟩
  | (exfalso;split at hc <;> cases hc;done)
  | (exfalso;obtain ⟨_,_,hh⟩:=Option.map_eq_some_iff.1 hc;cases hh;done)
theorem SW.ey {cH:List SI}{bs:List Nat}{draw:Bool}(de:List CR){st':St}{ob:Prop}{ts:List (Bool×List Nat)}(hm:P.follows .mixedOrders=true)(hrun:runs P cH st de=some (st',ob,ts))(bn:ob)
  (BU:(!draw || ku bs ts)=true) (h:Q .normal st'):SW P N k0 (.ey cH bs draw) st Q:=by
 intro c hc rd hrf cE M0 w0 c0 a w eO
 cases c <;> simp only [cK] at hc <;> first
  | (cases hc;done)
  | (exfalso;obtain ⟨_,_,hh⟩:=Option.map_eq_some_iff.1 hc;cases hh;done)
  | skip
 case region id ops dr=>
  split at hc <;> first | (cases hc;done) | skip
  rename_i sis' bs' hR
  injection hc with hc
  injection hc with e1 e2 e3
  subst e1;subst e2;subst e3
  exact xd hR hrun bn (fun hd=>by simpa [hd] using BU) hm eO fun a' w' hSt'=>⟨st',h,hSt'⟩
 all_goals (exfalso;split at hc <;> cases hc)
theorem SW.seq {x y:bX}(h:SW P N k0 x st fun e st'=>match e with | .normal=>SW P N k0 y st' Q | e=>Q e st'):SW P N k0 (.seq x y) st Q:=by
 intro c hc rd hrf cE M0 w0 c0 a w eO
 cases c <;> simp only [cK] at hc <;> first
  | (cases hc;done)
  | (exfalso;obtain ⟨_,_,hh⟩:=Option.map_eq_some_iff.1 hc;cases hh;done)
  | skip
 case seq cx cy=>
  split at hc <;> first | (cases hc;done) | skip
  rename_i x' y' hx hy
  injection hc with hc
  injection hc with e1 e2
  subst e1;subst e2
  refine wpIn_seq (wpIn_mono (h cx hx rd (fun e=>hrf (by simp [bX.rf,e])) cE M0 w0 c0 a w eO) fun e a' w' ⟨st',h1,h2⟩=> ?_)
  cases e <;> first
   | exact h1 cy hy rd (fun e=>hrf (by simp [bX.rf,e])) cE M0 w0 c0 a' w' h2
   | exact ⟨st',h1,h2⟩
 all_goals (exfalso;split at hc <;> cases hc)
theorem SW.block {id:Nat}{x:bX}(h:SW P N k0 x st fun e st'=>match e with | .exit id'=>if id'=id then Q .normal st' else Q (.exit id') st' | e=>Q e st'):SW P N k0 (.block id x) st Q:=by
 intro c hc rd hrf cE M0 w0 c0 a w eO
 cases c <;> simp only [cK] at hc <;> first
  | (cases hc;done)
  | (exfalso;split at hc <;> cases hc;done)
  | skip
 case block id' cx=>
  obtain ⟨x',hx,e1⟩:=Option.map_eq_some_iff.1 hc
  injection e1 with e1 e2
  subst e1;subst e2
  refine wpIn_block (wpIn_mono (h cx hx rd (fun e=>hrf (by simp [bX.rf,e])) cE M0 w0 c0 a w eO) fun e a' w' ⟨st',h1,h2⟩=> ?_)
  cases e <;> try exact ⟨st',h1,h2⟩
  rename_i i
  simp only [Exit.inBlock] at h1 ⊢
  split
  ·rename_i e1;rw [if_pos e1] at h1;exact ⟨st',h1,h2⟩
  ·rename_i e1;rw [if_neg e1] at h1;exact ⟨st',h1,h2⟩
 all_goals (exfalso;obtain ⟨_,_,hh⟩:=Option.map_eq_some_iff.1 hc;cases hh)
theorem SW.cond {x:X}{y z:bX}{b:Bool}(hx:ev (fun t=>st.env.lookup t) x=some (.d (.bool b)))(h1:b=true→SW P N k0 y st Q)(h2:b=false→SW P N k0 z st Q):SW P N k0 (.cond x y z) st Q:=by
 intro c hc rd hrf cE M0 w0 c0 a w eO
 cases c <;> simp only [cK] at hc <;> first
  | (cases hc;done)
  | (exfalso;obtain ⟨_,_,hh⟩:=Option.map_eq_some_iff.1 hc;cases hh;done)
  | skip
 case cond o cy cz=>
  split at hc <;> first | (cases hc;done) | skip
  rename_i x' y' z' hx' hy hz
  injection hc with hc
  injection hc with e1 e2 e3
  subst e1;subst e2;subst e3
  obtain ⟨mH,hdf,hsz,μ,M,fQ,hS,hE⟩:=eO
  have hk:gq (fun t=>st.env.lookup t) #[o] (· <st.k) μ M a:=⟨fun t _ s hs=>fQ t s hs,hS.mem.j9⟩
  have hb:=Rp.bz.1 (hk.get (by simp) hx' hx)
  exact wpIn_cond_split hb (fun e=>h1 e cy hy rd (fun e=>hrf (by simp [bX.rf,e])) cE M0 w0 c0 a w ⟨mH,hdf,hsz,μ,M,fQ,hS,hE⟩) (fun e=>h2 e cz hz rd (fun e=>hrf (by simp [bX.rf,e])) cE M0 w0 c0 a w ⟨mH,hdf,hsz,μ,M,fQ,hS,hE⟩)
 all_goals (exfalso;split at hc <;> cases hc)
def aY (ρ:Nat→Nat)(k:Nat)(env:List (Nat×SV)):List (Nat×SV)→Prop
 | []=>True
 | (t,s)::r=>env.lookup t=some (s.aC ρ)∧s.ok (fun n=>decide (n<k))=true∧aY ρ k env r
def uk (ρ:Nat→Nat)(k:Nat)(hp:Hp):Hp→Prop
 | []=>True
 | (n,ob)::r=>lk hp (ρ n)=some (ob.aC ρ)∧n<k∧ob.ok (fun n=>decide (n<k))=true∧uk ρ k hp r
def BV (ρ:Nat→Nat)(h:Hp):Prop:=∀ n,n∈h.map (·.1)→∀ m,m∈h.map (·.1)→ρ n=ρ m→n=m
def aJ (k0:Nat)(st st1:St)(ρ:Nat→Nat):Prop:=
 k0≤st1.k∧(∀ n,n<k0→ρ n=n)∧aY ρ st1.k st.env st1.env∧uk ρ st1.k st.hp st1.hp∧BV ρ st1.hp
theorem aY.get {ρ:Nat→Nat}{k:Nat}{env:List (Nat×SV)}:∀ {pG:List (Nat×SV)},aY ρ k env pG→∀ t s,pG.lookup t=some s→env.lookup t=some (s.aC ρ)∧s.ok (fun n=>decide (n<k))=true
 | [],_,t,s,h=>by simp at h
 | (t',s')::r,hw,t,s,h=>by
  simp only [aY] at hw
  simp only [List.lookup] at h
  split at h
  ·rename_i e
   have e:t=t':=by simpa using e
   injection h with h
   subst h;subst e
   exact ⟨hw.1,hw.2.1⟩
  ·exact aY.get hw.2.2 t s h
theorem uk.get {ρ:Nat→Nat}{k:Nat}{hp:Hp}:∀ {hp1:Hp},uk ρ k hp hp1→∀ n ob,lk hp1 n=some ob→lk hp (ρ n)=some (ob.aC ρ)∧n<k∧ob.ok (fun n=>decide (n<k))=true
 | [],_,n,ob,h=>by simp [bt] at h
 | (n',jw)::r,hw,n,ob,h=>by
  simp only [uk] at hw
  rw [aa] at h
  split at h
  ·rename_i e
   injection h with h
   subst h;subst e
   exact ⟨hw.1,hw.2.1,hw.2.2.1⟩
  ·exact uk.get hw.2.2.2 n ob h
theorem zz {h:Hp}{n:Nat}(hn:lk h n≠none):n∈h.map (·.1):=by
 obtain ⟨ob,ho⟩:=Option.ne_none_iff_exists'.1 hn
 exact List.mem_map.2 ⟨(n,ob),iC ho,rfl⟩
theorem gH.weak {cE:Nat→Nm}{M0:Mem}{w0:World}{c0:Nat→Option Ob}{st1:St}{ρ:Nat→Nat}{a:Act}{w:World}(h:gH N cE M0 w0 c0 k0 st a w)(hw:aJ k0 st st1 ρ):gH N cE M0 w0 c0 k0 st1 a w:=by
  obtain ⟨mH,hdf,hsz,μ,M,fQ,hS,hE⟩:=h
  obtain ⟨h1,h2,h3,h4,h5⟩:=hw
  let ν:Nat→Nm:=fun n=>if n<st1.k then μ (ρ n) else cE n
  have gp:∀ n,n<st1.k→ν n=μ (ρ n):=fun n hn=>by simp [ν,hn]
  have hν':∀ n,decide (n<st1.k)=true→ν n=μ (ρ n):=fun n hn=>gp n (by simpa using hn)
  have hq:∀ n,decide (n<st1.k)=true→n<st1.k:=fun n hn=>by simpa using hn
  refine ⟨h1,hdf,hsz,ν,M,fun t s hs=> ?_,⟨hS.mem,fun n ob hn=> ?_,fun n m hn hm ln lm e=> ?_⟩,⟨fun n hn=> ?_,hE.mem,hE.frame,hE.size,fun n hn=> ?_,hE.os,hE.tape,hE.output⟩⟩
  · obtain ⟨a1,a2⟩:=h3.get t s hs
    exact Rp.to a2 hq hν' (fQ t _ a1).rep
  · obtain ⟨a1,a2,a3⟩:=h4.get n ob hn
    obtain ⟨_,b1,b2⟩:=hS.obs _ _ a1
    rw [gp n a2]
    exact ⟨a2,b1.to a3 hq hν',b2⟩
  · obtain ⟨o1,ho1⟩:=Option.ne_none_iff_exists'.1 hn
    obtain ⟨o2,ho2⟩:=Option.ne_none_iff_exists'.1 hm
    obtain ⟨a1,a2,_⟩:=h4.get n o1 ho1
    obtain ⟨b1,b2,_⟩:=h4.get m o2 ho2
    rw [gp n a2] at e ln
    rw [gp m b2] at e lm
    exact h5 n (zz hn) m (zz hm) (hS.inj _ _ (by rw [a1];simp) (by rw [b1];simp) ln lm e)
  · by_cases hk:n<k0
    · rw [gp n (by omega),h2 n hk]
      exact hE.old n (by omega)
    · simp only [ν]
      rw [if_neg (by omega)]
  · obtain ⟨o1,ho1⟩:=Option.ne_none_iff_exists'.1 hn
    obtain ⟨a1,a2,_⟩:=h4.get n o1 ho1
    rw [gp n a2]
    have hnm:=hE.names (ρ n) (by rw [a1];simp)
    by_cases hk:n<k0
    · rw [h2 n hk] at hnm ⊢
      rcases hnm with ⟨⟨b1,_⟩,_⟩ | ⟨b1,b2⟩
      · omega
      · exact .inr ⟨by omega,b2⟩
    · refine .inl ⟨⟨by omega,a2⟩,?_⟩
      rcases hnm with ⟨_,b⟩ | ⟨b1,b2⟩
      · exact b
      · exact fun l=> .inr ⟨ρ n,b2,by rw [hE.old _ b1] at l;exact l,by rw [hE.old _ b1]⟩
theorem SW.weak {s:bX}{st1:St}(ρ:Nat→Nat)(hw:aJ k0 st st1 ρ)(h:SW P N k0 s st1 Q):SW P N k0 s st Q:=
 fun c hc rd hrf cE M0 w0 c0 a w eO=>h c hc rd hrf cE M0 w0 c0 a w (eO.weak hw)
theorem SW.loop {α:Type}{x:bX}(I:α→St)(m:α→Nat)(i0:α)(Hu:Nat→Nat)(h0:aJ k0 st (I i0) Hu)
  (round:∀ i,SW P N k0 x (I i) fun e st'=>match e with | .normal=>∃ j ρ,m j<m i∧aJ k0 st' (I j) ρ | e=>Q e st'):SW P N k0 (.loop x) st Q:=by
 intro c hc rd hrf cE M0 w0 c0 a w eO
 cases c <;> simp only [cK] at hc <;> first
  | (cases hc;done)
  | (exfalso;split at hc <;> cases hc;done)
  | skip
 case loop cx=>
  obtain ⟨x',hx,e1⟩:=Option.map_eq_some_iff.1 hc
  injection e1 with e1
  subst e1
  have key:∀ n i a w,m i=n→gH N cE M0 w0 c0 k0 (I i) a w→(Code.loop cx).wpIn (jc rd) 0 P (fun e a' w'=>∃ st',Q e st'∧gH N cE M0 w0 c0 k0 st' a' w') a w:=by
   intro n i a w hn hI
   refine wpIn_loop (fun a w=>∃ i,gH N cE M0 w0 c0 k0 (I i) a w) (fun a w=>Classical.epsilon fun n=>∃ i,m i=n∧gH N cE M0 w0 c0 k0 (I i) a w∧∀ j,gH N cE M0 w0 c0 k0 (I j) a w→m i≤m j) ⟨i,hI⟩ fun a w ⟨i,hI⟩=> ?_
   have least:∀ a w,(∃ i,gH N cE M0 w0 c0 k0 (I i) a w)→∃ n,∃ i,m i=n∧gH N cE M0 w0 c0 k0 (I i) a w∧∀ j,gH N cE M0 w0 c0 k0 (I j) a w→m i≤m j:=by
    intro a w ⟨i,hI⟩
    have:∀ n i,m i=n→gH N cE M0 w0 c0 k0 (I i) a w→∃ n,∃ i,m i=n∧gH N cE M0 w0 c0 k0 (I i) a w∧∀ j,gH N cE M0 w0 c0 k0 (I j) a w→m i≤m j:=by
     intro n
     induction n using Nat.strongRecOn with
     | _ n ih=>
      intro i hi hI
      by_cases hh:∃ j,gH N cE M0 w0 c0 k0 (I j) a w∧m j<m i
      ·obtain ⟨j,hj,hlt⟩:=hh
       exact ih (m j) (by omega) j rfl hj
      ·exact ⟨m i,i,rfl,hI,fun j hj=>Nat.le_of_not_lt fun h=>hh ⟨j,hj,h⟩⟩
    exact this (m i) i rfl hI
   obtain ⟨i',e1,hI',hmin⟩:=Classical.epsilon_spec (least a w ⟨i,hI⟩)
   refine wpIn_mono (round i' cx hx rd (fun e=>hrf (by simp [bX.rf,e])) cE M0 w0 c0 a w hI') fun e a' w' ⟨st',h1,h2⟩=> ?_
   cases e <;> try exact ⟨st',h1,h2⟩
   obtain ⟨j,ρ,hlt,hw⟩:=h1
   have hJ:=h2.weak hw
   refine ⟨⟨j,hJ⟩,?_⟩
   obtain ⟨j',e2,hJ',hmin'⟩:=Classical.epsilon_spec (least a' w' ⟨j,hJ⟩)
   rw [← e1,← e2]
   exact Nat.lt_of_le_of_lt (hmin' j hJ) hlt
  exact key (m i0) i0 a w rfl (eO.weak h0)
 all_goals (exfalso;obtain ⟨_,_,hh⟩:=Option.map_eq_some_iff.1 hc;cases hh)
inductive RV where
 | tmp (t:Nat)
 | cell (t:Nat) (sz:Option Nat)
def E6 (P:Program):List ResultVar→Option (List RV)
 | []=>some []
 | .tmp t::r=>match E6 P r with
  | some r=>some (.tmp t::r)
  | none=>none
 | .cell t ty::r=>match dx P ty,E6 P r with
  | some sz,some r=>some (.cell t sz::r)
  | _,_=>none
def Bz (st:St):List RV→Option (List SV×Prop)
  | []=>some ([],True)
  | .tmp t::r=>match st.env.lookup t,Bz st r with
    | some s,some (ss,ob)=>some (s::ss,ob)
    | _,_=>none
  | .cell t sz::r=>match st.env.lookup t,Bz st r with
    | some s,some (ss,ob)=>match fU (lk st.hp) s with
      | some (cs,off,_)=>match zm cs off sz with
        | some v=>some (v::ss,wP cs off sz∧ob)
        | none=>none
      | none=>none
    | _,_=>none
def eP:List SV→SV
 | [s]=>s
 | ss=> .dM ss
def xe (tmps:Array Value):ResultVar→Sem Value
 | .tmp t=>pure (tmps.getD t undef)
 | .cell t ty=>do loadVar ty (← asAddr (tmps.getD t undef))
theorem yo (fn:Func)(tmps:Array Value):results fn tmps=(do let vs ← fn.results.mapM (xe tmps);pure (if h:vs.size=1 then vs[0] else .tuple vs):Sem Value):=by
 unfold results
 congr 1
theorem yp {w:World}{a:Act}{p:Nat→Prop}{μ:Nat→Nm}{M:Mem}(fQ:∀ t s,st.env.lookup t=some s→Rp p μ M s (a.tmps.getD t undef))(hS:bK p μ M (lk st.hp) w):
  ∀ (rs:List ResultVar) (nj:List RV) (ss:List SV) (ob:Prop),E6 P rs=some nj→Bz st nj=some (ss,ob)→ob→
   ∃ vs:List Value,(rs.mapM (xe a.tmps)).run P w= .ok vs w∧aR p μ M ss vs
 | [],nj,ss,ob,h1,h2,h3=>by
  simp [E6] at h1;subst h1
  simp [Bz] at h2;obtain ⟨rfl,_⟩:=h2
  exact ⟨[],by simp,aR.aP.2 rfl⟩
 | .tmp t::rs,nj,ss,ob,h1,h2,h3=>by
  simp only [E6] at h1
  split at h1 <;> first | (cases h1;done) | skip
  rename_i r hr
  injection h1 with h1;subst h1
  simp only [Bz] at h2
  split at h2 <;> first | (cases h2;done) | skip
  rename_i s ss' jw hs hss
  injection h2 with h2
  injection h2 with h2 h2'
  subst h2;subst h2'
  obtain ⟨vs,h4,h5⟩:=yp fQ hS rs r ss' _ hr hss h3
  refine ⟨_::vs,?_,aR.aF.2 ⟨_,vs,rfl,fQ t s hs,h5⟩⟩
  simp only [List.mapM_cons,xe,Sem.run_bind,Sem.run_pure,Result.andThen_ok,h4]
 | .cell t ty::rs,nj,ss,ob,h1,h2,h3=>by
  simp only [E6] at h1
  split at h1 <;> first | (cases h1;done) | skip
  rename_i sz r hsz hr
  injection h1 with h1;subst h1
  simp only [Bz] at h2
  split at h2 <;> first | (cases h2;done) | skip
  rename_i s ss' jw hs hss
  split at h2 <;> first | (cases h2;done) | skip
  rename_i cs off F hc
  split at h2 <;> first | (cases h2;done) | skip
  rename_i v hv
  injection h2 with h2
  injection h2 with h2 h2'
  subst h2;subst h2'
  obtain ⟨vs,h4,h5⟩:=yp fQ hS rs r ss' _ hr hss h3.2
  obtain ⟨b,q,e1,hrd⟩:=ox hc (fQ t s hs) (hS.sub (rq hc))
  obtain ⟨u,hu,hu'⟩:=zn hsz hv h3.1 hrd
  refine ⟨u::vs,?_,aR.aF.2 ⟨u,vs,rfl,hu',h5⟩⟩
  have hA:(asAddr (a.tmps.getD t undef)).run P w= .ok ⟨b,q+off,none⟩ w:=by rw [e1];rfl
  simp only [List.mapM_cons,xe,hA,Sem.run_bind,Sem.run_pure,Result.andThen_ok,hu,h4]
theorem xg {w:World}{a:Act}{fn:Func}{nj:List RV}{ss:List SV}{ob:Prop}{p:Nat→Prop}{μ:Nat→Nm}{M:Mem}(fQ:∀ t s,st.env.lookup t=some s→Rp p μ M s (a.tmps.getD t undef))(hS:bK p μ M (lk st.hp) w)
  (h1:E6 P fn.results.toList=some nj) (h2:Bz st nj=some (ss,ob)) (h3:ob):∃ v,(results fn a.tmps).run P w= .ok v w∧Rp p μ M (eP ss) v:=by
 obtain ⟨vs,h4,h5⟩:=yp fQ hS fn.results.toList nj ss ob h1 h2 h3
 have h6:(fn.results.mapM (xe a.tmps)).run P w= .ok vs.toArray w:=by
  rw [← Array.toArray_toList (xs:=fn.results),List.mapM_toArray,Sem.run_map,h4]
  rfl
 have hl:=h5.length
 rw [yo]
 simp only [Sem.run_bind,h6,Result.andThen_ok,Sem.run_pure]
 match ss,vs,hl,h5 with
 | [s],[v],_,h5=>
  obtain ⟨u,us,e,hu,_⟩:=aR.aF.1 h5
  injection e with e1 e2
  subst e1
  exact ⟨v,by rw [dif_pos (by rfl)];rfl,hu⟩
 | [],[],_,h5=>exact ⟨_,rfl,Rp.dP.2 ⟨#[],by simp,h5⟩⟩
 | s::s'::ss,[],h,_=>simp at h
 | s::s'::ss,[v],h,_=>simp at h
 | s::s'::ss,v::v'::vs,_,h5=>exact ⟨_,rfl,Rp.dP.2 ⟨(v::v'::vs).toArray,by simp,by simpa using h5⟩⟩
theorem bK.put {p:Nat→Prop}{μ:Nat→Nm}{M:Mem}{c:Nat→Option Ob}{w:World}(hS:bK p μ M c w){r:Nat}{y:Obj}(x:Obj)(hr:w.heap[r]? =some y)(hf:jy y=true):bK p μ M c (w.putObj r x):=by
 refine ⟨⟨fun b o v h=> ?_,hS.mem.j9⟩,fun n ob hn=> ?_,hS.inj⟩
 ·have h1:=hS.mem b o v h
  have hb:b≠r:=by
   rintro rfl
   simp only [World.cell?,hr] at h1
   cases y <;> simp [jy] at hf h1
  simp only [World.cell?,World.putObj_heap_other hb] at h1 ⊢
  exact h1
 ·obtain ⟨a1,a2,a3⟩:=hS.obs n ob hn
  exact ⟨a1,a2.more (fun _ h=>h) (fun _ _=>rfl) (Mem.le_refl _) (fun hl=>World.putObj_heap_other (hS.not hr hf n (by rw [hn];simp) hl)),a3⟩
theorem Ev.put {c c':Nat→Option Ob}{new:Nat→Prop}{μ aZ:Nat→Nm}{M M':Mem}{w0 w:World}(hE:Ev c new μ M w0 c' aZ M' w){r:Nat}(x:Obj)(hr:w0.heap.size≤r):Ev c new μ M w0 c' aZ M' (w.putObj r x):=
 ⟨hE.old,hE.mem,fun b hb hn=>⟨(World.putObj_heap_other (by omega)).trans (hE.frame b hb hn).1,(hE.frame b hb hn).2⟩,by rw [World.putObj_size];exact hE.size,hE.names,hE.os,hE.tape,hE.output⟩
theorem Marks.put {w0 w:World}{r:Nat}(x:Obj):∀ df,(∀ d',d'∈df→d'≠⟨.collected r,#[]⟩)→Marks w0 w df→Marks w0 (w.putObj r x) df
 | [],_,_=>trivial
 | d::ds,hne,⟨⟨r',h1,h2,h3,h4⟩,h5⟩=>
  ⟨⟨r',h1,h2,(World.putObj_heap_other (fun e=>hne d (by simp) (by rw [h1,e]))).trans h3,h4⟩,Marks.put x ds (fun d' hd=>hne d' (by simp [hd])) h5⟩
theorem pH {fn:Func}{tmps:Array Value}{R:Ending→World→Prop}{p:Nat→Prop}{μ:Nat→Nm}{M:Mem}{c:Nat→Option Ob}{c0:Nat→Option Ob}{new:Nat→Prop}{cE:Nat→Nm}{M0:Mem}{w0:World}:
  ∀ (df:List Deferred) (w:World),Marks w0 w df→bK p μ M c w→Ev c0 new cE M0 w0 c μ M w→(∀ w',bK p μ M c w'→Ev c0 new cE M0 w0 c μ M w'→LeavesIn (jc none) 0 P fn tmps R [] .returning w')→LeavesInM (jc none) 0 P fn tmps R df .returning w
 | [],w,_,hS,hE,h=>h w hS hE
 | d::ds,w,⟨⟨r,h1,h2,h3,h4⟩,h5⟩,hS,hE,h=>by
  refine ⟨by simp,.inl ⟨r,_,by rw [h1],run_takeDeferred h3,?_⟩⟩
  exact pH ds _ (Marks.put _ ds h4 h5) (hS.put _ h3 rfl) (hE.put _ h2) h
def Fin (k nk:Nat)(nj:List RV)(Q:SV→Hp→Prop)(st:St):Prop:=
 ∃ ss ob F',Bz st nj=some (ss,ob)∧ob∧HSub F' st.hp∧Q (eP ss) F'∧(eP ss).ok (fun n=>decide (n<k+nk))=true∧F'.ok (fun n=>decide (n<k+nk))=true∧k+nk≤st.k
def kA:Nat→List SV→List (Nat×SV)
 | _,[]=>[]
 | i,s::ss=>(i,s)::kA (i+1) ss
theorem xh:∀ (i:Nat) (ss:List SV) (t:Nat) (s:SV),(kA i ss).lookup t=some s→i≤t∧ss[t - i]? =some s
 | i,[],t,s,h=>by simp [kA] at h
 | i,x::ss,t,s,h=>by
  simp only [kA,List.lookup] at h
  split at h
  ·rename_i e
   have e:t=i:=by simpa using e
   injection h with h
   subst h;subst e
   simp
  ·obtain ⟨h1,h2⟩:=xh (i+1) ss t s h
   refine ⟨by omega,?_⟩
   rw [show t - i=(t - (i+1))+1 by omega]
   simpa using h2
theorem SB.E7 {f:FuncId}{fn:Func}{c:Code}{s:bX}{nj:List RV}{args:List SV}{F:Hp}{k nk:Nat}{Q:SV→Hp→Prop}(hf:P.funcs[f]? =some fn)(hb:fn.body=some c)(hc:cK P fn.ntmps c=some s)
  (IE:E6 P fn.results.toList=some nj) (BW:je P f=true) (hargs:SV.ay (fun n=>decide (n<k)) args=true) (hF:F.ok (fun n=>decide (n<k))=true) (hN:args.length≤fn.ntmps)
  (h:SW P fn.ntmps k s ⟨kA 0 args,F,k⟩ fun e st'=>match e with | .normal=>Fin k nk nj Q st' | .ret=>Fin k nk nj Q st' | _=>False):SB P f args F k nk Q:=by
 refine ⟨BW,hargs,hF,fun μ M w vals hr hS=>ql (r:=none) (n:=0) |>.1 (callsIn_of_wp_marks hf hb trivial ?_)⟩
 have hlen:vals.size=args.length:=by simpa using hr.length
 have eO:gH fn.ntmps μ M w (lk F) k ⟨kA 0 args,F,k⟩ { tmps:=vals++Array.replicate (fn.ntmps - vals.size) undef,defers:=[]} w:=by
  refine ⟨Nat.le_refl _,trivial,by simp;omega,μ,M,fun t s hs=> ?_,hS,Ev.refl _ _ _ _ _ fun n hn hh=>absurd hh.2 (Nat.not_lt.2 hh.1)⟩
  obtain ⟨_,h2⟩:=xh 0 args t s hs
  obtain ⟨u,hu,hr'⟩:=hr.get h2
  have hu':vals[t]? =some u:=by simpa using hu
  have hlt:t<vals.size:=(Array.getElem?_eq_some_iff.1 hu').1
  have:(vals++Array.replicate (fn.ntmps - vals.size) undef).getD t undef=u:=by
   rw [Array.getD_eq_getD_getElem?,Array.getElem?_append_left hlt,hu']
   rfl
  rw [this]
  exact hr'
 refine wpIn_mono (h c hc none (fun _=>rfl) μ M w (lk F) _ w eO) ?_
 rintro e a' w' ⟨st',hQ,hSt'⟩
 obtain ⟨_,hdf,_,vF,M1,fQ,hS0,hE0⟩:=hSt'
 have fin:Fin k nk nj Q st'→LeavesInM (jc none) 0 P fn a'.tmps (fun e w'=>∃ r F' aZ M' u,e=Ending.returned u∧Q r F'∧r.ok (fun n=>decide (n<k+nk))=true∧F'.ok (fun n=>decide (n<k+nk))=true∧cI aZ M' r u∧bK (· <k+nk) aZ M' (lk F') w'∧
   Ev (lk F) (fun n=>k≤n∧n<k+nk) μ M w (lk F') aZ M' w') a'.defers .returning w':=by
  rintro ⟨ss,ob,F',h1,h2,h3,h4,h5,h6,h7⟩
  refine pH a'.defers w' hdf hS0 hE0 fun w' uc ou=> ?_
  obtain ⟨v,hv,hr'⟩:=xg fQ uc IE h1 h2
  refine ⟨v,hv,eP ss,F',fun n=>if n<k+nk then vF n else μ n,M1,v,rfl,h4,h5,h6,?_,?_,?_⟩
  ·exact cI.congr (fun n hn=>by simp only [decide_eq_true_eq] at hn;rw [if_pos hn]) _ v h5 hr'.rep
  ·refine ⟨uc.mem,fun n ob hn=> ?_,fun n m hn hm ln lm e=> ?_⟩
   ·obtain ⟨a1,a2⟩:=Hp.dH h6 hn
    simp only [decide_eq_true_eq] at a1
    obtain ⟨_,b1,b2⟩:=uc.obs n ob (h3 n ob hn)
    simp only [if_pos a1]
    refine ⟨a1,?_,b2⟩
    have hb':bW (· <st'.k) (fun n=>vF (id n)) M1 w' (vF n) (ob.aC id):=by
     have hid:∀ s:SV,s.aC id=s:=fun s=>by
      have key:∀ s:SV,s.aC id=s:=by
       intro s
       exact SV.rec (motive_1:=fun s=>s.aC id=s) (motive_2:=fun l=>SV.aW id l=l) (fun _=>rfl) (fun _ _=>rfl) (fun _ _=>rfl) (fun _ _ _=>rfl) (fun _ _=>rfl) (fun _=>rfl) (fun _=>rfl) (fun _=>rfl) (fun f a c h1 h2=>by simp only [SV.aC,h1,h2]) (fun cs h=>by simp only [SV.aC,h]) (fun cs h=>by simp only [SV.aC,h]) rfl rfl (fun c cs h1 h2=>by simp only [SV.aW,h1,h2]) s
      exact key s
     have hids:∀ l:List SV,SV.aW id l=l:=fun l=>by induction l <;> simp_all [SV.aW]
     have:ob.aC id=ob:=by
      cases ob <;> simp [Ob.aC,hids,hid]
     rw [this];exact b1
    exact bW.to a2 (fun m hm=>by simpa using hm) (fun m hm=>by simp only [decide_eq_true_eq] at hm;simp [hm]) hb'
   ·obtain ⟨o1,ho1⟩:=Option.ne_none_iff_exists'.1 hn
    obtain ⟨o2,ho2⟩:=Option.ne_none_iff_exists'.1 hm
    have a1:=(Hp.dH h6 ho1).1
    have a2:=(Hp.dH h6 ho2).1
    simp only [decide_eq_true_eq] at a1 a2
    rw [if_pos a1] at e ln
    rw [if_pos a2] at e lm
    exact uc.inj n m (by rw [h3 n o1 ho1];simp) (by rw [h3 m o2 ho2];simp) ln lm e
  ·refine ⟨fun n hn=> ?_,ou.mem,ou.frame,ou.size,fun n hn=> ?_,ou.os,ou.tape,ou.output⟩
   ·by_cases hnk:n<k+nk
    ·rw [if_pos hnk];exact ou.old n (by omega)
    ·rw [if_neg hnk]
   ·obtain ⟨o1,ho1⟩:=Option.ne_none_iff_exists'.1 hn
    have a1:=(Hp.dH h6 ho1).1
    simp only [decide_eq_true_eq] at a1
    rw [if_pos a1]
    rcases ou.names n (by rw [h3 n o1 ho1];simp) with ⟨b1,b2⟩ | ⟨b1,b2⟩
    ·exact .inl ⟨⟨b1.1,a1⟩,b2⟩
    ·exact .inr ⟨by omega,b2⟩
 cases e <;> first
  | exact fin hQ
  | exact hQ.elim
end
end
end Go.Sl
