/-
 A region, in whatever order: what each operation needs is there when it comes up.
-/
import Derived.Test.YtefjaphfnkbbkaaU4
set_option linter.unusedSimpArgs false
set_option linter.unusedSectionVars false
set_option linter.unusedVariables false
namespace Go.Sl
open Go.RowKit
section
def pick {α:Type}(A:Nat→Bool)(f:Nat→α)(n:Nat)(c:α):α:=match n with
 | 0=>c
 | n+1=>if A n then f n else pick A f n c
theorem eH {α:Type}{A B:Nat→Bool}{f:Nat→α}{c:α}:∀ {n:Nat},(∀ i,i<n→A i=B i)→pick A f n c=pick B f n c
 | 0,_=>rfl
 | n+1,h=>by simp only [pick,h n (by omega),eH (n:=n) fun i hi=>h i (by omega)]
theorem pP {α:Type}{A:Nat→Bool}{f:Nat→α}{c:α}:∀ {n:Nat},(∀ i,i<n→A i=false)→pick A f n c=c
 | 0,_=>rfl
 | n+1,h=>by simp [pick,h n (by omega),pP (n:=n) fun i hi=>h i (by omega)]
theorem rK {α:Type}{A B:Nat→Bool}{f:Nat→α}{c:α}{i:Nat}:∀ {n:Nat},i<n→(∀ j,j<n→j≠i→B j=A j)→(∀ j,j<n→i<j→A j=false)→B i=true→pick B f n c=f i
 | 0,h,_,_,_=>by omega
 | n +1,h,h1,h2,h3=>by
  by_cases hn:n=i
  ·subst hn;simp [pick,h3]
  ·have hA:A n=false:=h2 n (by omega) (by omega)
   have hB:B n=false:=(h1 n (by omega) hn).trans hA
   simp only [pick,hB,Bool.false_eq_true,if_false]
   exact rK (by omega) (fun j hj=>h1 j (by omega)) (fun j hj=>h2 j (by omega)) h3
theorem pQ {α:Type}{A:Nat→Bool}{f:Nat→α}{c:α}{i:Nat}:∀ {n:Nat},i≤n→pick (fun j=>A j && decide (j<i)) f n c=pick A f i c
 | 0,h=>by
  have:i=0:=by omega
  subst this;rfl
 | n +1,h=>by
  by_cases hn:i=n+1
  ·subst hn
   exact eH fun j hj=>by simp [hj]
  ·have:decide (n<i)=false:=by simp;omega
   simp only [pick,this,Bool.and_false,Bool.false_eq_true,if_false]
   exact pQ (by omega)
def fq (bs:List Nat)(i j:Nat):Bool:=(bs.getD j 0).testBit i
def tK (n:Nat)(f:Nat→Nat→Bool):Bool:=(List.range n).all fun i=>(List.range n).all fun j=>f i j
theorem mK {n:Nat}{f:Nat→Nat→Bool}(h:tK n f=true){i j:Nat}(hi:i<n)(hj:j<n):f i j=true:=by
 have:=List.all_eq_true.1 h i (List.mem_range.2 hi)
 exact List.all_eq_true.1 this j (List.mem_range.2 hj)
def okB (ops:Array Oper)(bs:List Nat):Bool:=
 tK ops.size (fun j i=> !fq bs i j || (i<j && ((ops[j]?).map fun o=>o.after.any fun e=>Region.binds .any e && (e.on == i || (e.on<j && fq bs i e.on))).getD false)) &&
 (List.range ops.size).all fun j=>((ops[j]?).map fun o=>o.after.all fun e=> !Region.binds .any e || e.on<j).getD false
def fA (ops:Array Oper)(i:Nat):Option Tmp:=(ops[i]?).bind (·.dst)
def looks (ops:Array Oper)(i:Nat):List Tmp:=((ops[i]?).map fun o=>o.looksAt ops).getD []
def zu (ops:Array Oper)(bs:List Nat):Bool:=
 tK ops.size fun i j=>i == j || match fA ops i with
  | none=>true
  | some d=>fA ops j != some d && (!(looks ops j).contains d || fq bs i j || fq bs j i)
structure RG (P:Program)(ops:Array Oper)(bs:List Nat)(N:Nat)(E0:Nat→Option SV)(H0:Nat→Option Ob)(k0:Nat)(bW:Nat→j4)(ro:Nat→Bool)(kk:Nat→Nat):Prop where
 slots:zu ops bs=true
 Jp:∀ i d,fA ops i=some d→d<N
 IT:kk 0=k0
 IU:∀ i,kk (i+1)=kk i+(bW i).nk
 HM:∀ i j h_,i<ops.size→j<ops.size→i≠j→ro i=false→((lk (bW i).F h_).isSome || (lk (bW i).F' h_).isSome)=true→((lk (bW j).F h_).isSome || (lk (bW j).F' h_).isSome)=true→fq bs i j=true∨fq bs j i=true
 Jq:∀ i,ro i=true→(bW i).F'=(bW i).F
section
variable {P:Program} {ops:Array Oper} {bs:List Nat} {N:Nat} {E0:Nat→Option SV} {H0:Nat→Option Ob} {k0:Nat} {bW:Nat→j4} {ro:Nat→Bool} {kk:Nat→Nat}
def gp (ops:Array Oper)(E0:Nat→Option SV)(bW:Nat→j4)(D:Nat→Bool)(n t:Nat):Option SV:=pick (fun i=>D i && fA ops i == some t) (fun i=>some (bW i).v) n (E0 t)
def ig (bW:Nat→j4)(i h_:Nat):Bool:=(lk (bW i).F h_).isSome || (lk (bW i).F' h_).isSome
def eA (H0:Nat→Option Ob)(bW:Nat→j4)(ro:Nat→Bool)(D:Nat→Bool)(n h_:Nat):Option Ob:=pick (fun i=>D i && (!ro i && ig bW i h_)) (fun i=>lk (bW i).F' h_) n (H0 h_)
def kf (want:Bool):SV→Bool
 | .d (.bool b)=>b != want
 | .cg []=>true
 | _=>false
def pR (P:Program)(ops:Array Oper)(E:Nat→Option SV)(H:Nat→Option Ob)(k:Nat)(o:Oper)(e:j4):Prop:=
 (∃ j want t s,o.guard=some (j,want)∧fA ops j=some t∧E t=some s∧kf want s=true∧e.v= .cg []∧e.F=[]∧e.F'=[]∧e.nk=0)∨
 ((o.guard=none∨∃ j want t,o.guard=some (j,want)∧fA ops j=some t∧E t=some (.d (.bool want)))∧Sound P o E H k e)
theorem OT.facts {o:Oper}{E E':Nat→Option SV}{F F':Hp}{new:Nat→Prop}{v:SV}(h:OT P o E F new v F')(hE:∀ t,Operand.tmp t∈o.op.operands→∀ s,E t=some s→E' t=some s):OT P o E' F new v F':=by
 intro rd p μ M a w K Q hnew hk hS hK
 exact h rd p μ M a w K Q hnew ⟨fun t ht s hs=>hk.1 t ht s (hE t ht s hs),hk.2⟩ hS hK
theorem An {i:Nat}{o:Oper}{t:Nat}(ho:ops[i]? =some o)(ht:Operand.tmp t∈o.op.operands):t∈looks ops i:=by
 simp only [looks,ho,Option.map_some,Option.getD_some,Oper.looksAt,List.mem_append]
 exact .inl (List.mem_filterMap.2 ⟨.tmp t,by simpa using ht,rfl⟩)
theorem qC {i j:Nat}{o:Oper}{t:Nat}{want:Bool}(ho:ops[i]? =some o)(hg:o.guard=some (j,want))(ht:fA ops j=some t):t∈looks ops i:=by
 simp only [looks,ho,Option.map_some,Option.getD_some,Oper.looksAt,List.mem_append,hg]
 refine .inr ?_
 unfold fA at ht
 simp [ht]
def rL (ops:Array Oper)(D:Nat→Bool):Prop:=∀ j o,D j=true→ops[j]? =some o→∀ e∈o.after,Region.binds .any e=true→D e.on=true
def zw (ops:Array Oper)(D:Nat→Bool)(i:Nat):Prop:=∀ o,ops[i]? =some o→∀ e∈o.after,Region.binds .any e=true→D e.on=true
theorem yd (h:okB ops bs=true){i j:Nat}(hj:j<ops.size)(hi:i<ops.size)(ho:fq bs i j=true):i<j∧∃ o,ops[j]? =some o∧∃ e∈o.after,Region.binds .any e=true∧(e.on=i∨(e.on<j∧fq bs i e.on=true)):=by
 simp only [okB,Bool.and_eq_true] at h
 have:=mK h.1 hj hi
 simp only [ho,Bool.not_true,Bool.false_or,Bool.and_eq_true,decide_eq_true_eq] at this
 refine ⟨this.1,ops[j],Array.getElem?_eq_getElem hj,?_⟩
 have h2:=this.2
 rw [Array.getElem?_eq_getElem hj] at h2
 simp only [Option.map_some,Option.getD_some] at h2
 obtain ⟨e,he,hb⟩:=Array.any_eq_true'.1 h2
 simp only [Bool.and_eq_true,Bool.or_eq_true,beq_iff_eq,decide_eq_true_eq] at hb
 exact ⟨e,he,hb.1,hb.2⟩
theorem pS (h:okB ops bs=true){D:Nat→Bool}(hc:rL ops D):∀ {j i:Nat},j<ops.size→i<ops.size→zw ops D j→fq bs i j=true→D i=true:=by
 intro j
 induction j using Nat.strongRecOn with
 | _ j ih=>
  intro i hj hi hp ho
  obtain ⟨_,o,ho',e,he,hb,h2⟩:=yd h hj hi ho
  have hD:=hp o ho' e he hb
  rcases h2 with rfl | ⟨hlt,h3⟩
  ·exact hD
  ·exact ih e.on hlt (by omega) hi (fun o' ho''=>hc e.on o' hD ho'') h3
theorem ye (h:okB ops bs=true){D:Nat→Bool}(hc:rL ops D){i j:Nat}(hj:j<ops.size)(hi:i<ops.size)(hD:D j=true)(ho:fq bs i j=true):D i=true:=
 pS h hc hj hi (fun o' ho'=>hc j o' hD ho') ho
theorem IV (h:okB ops bs=true){D:Nat→Bool}(hc:rL ops D){i j:Nat}(hi:i<ops.size)(hj:j<ops.size)(hn:D i=false)(hp:zw ops D i)(ho:fq bs i j=true∨fq bs j i=true):D j=decide (j<i):=by
 rcases ho with ho | ho
 ·have hlt:=(yd h hj hi ho).1
  cases hD:D j with
  | false=>simp;omega
  | true=>
   have:=ye h hc hj hi hD ho
   rw [this] at hn;cases hn
 ·have hlt:=(yd h hi hj ho).1
  rw [pS h hc hi hj hp ho]
  simp [hlt]
variable (hR:RG P ops bs N E0 H0 k0 bW ro kk)
include hR
theorem RG.D9 {D:Nat→Bool}{i t:Nat}(hi:i<ops.size)(hn:D i=false)(hT:∀ j,j<ops.size→j≠i→(fq bs i j=true∨fq bs j i=true)→D j=decide (j<i))(hl:t∈looks ops i):
    gp ops E0 bW D ops.size t=gp ops E0 bW (fun _=>true) i t:=by
  unfold gp
  rw [← pQ (A:=fun j=>true && fA ops j == some t) (n:=ops.size) (by omega)]
  refine eH fun j hj=> ?_
  by_cases hd:fA ops j=some t
  · by_cases hji:j=i
    · subst hji;simp [hn,hd]
    · have hs:=mK hR.slots hj hi
      simp only [beq_iff_eq,hji,Bool.or_eq_true,false_or,hd,Bool.and_eq_true,Bool.not_eq_true'] at hs
      have hcon:(looks ops i).contains t=true:=by simpa using hl
      rw [hcon] at hs
      have ho:fq bs i j=true∨fq bs j i=true:=by
        rcases hs.2 with (h | h) | h
        · cases h
        · exact .inr h
        · exact .inl h
      simp [hd,hT j hj hji ho]
  · simp [beq_eq_false_iff_ne.2 hd]
theorem RG.D_ {D:Nat→Bool}{i h_:Nat}(hi:i<ops.size)(hn:D i=false)(hT:∀ j,j<ops.size→j≠i→(fq bs i j=true∨fq bs j i=true)→D j=decide (j<i))(ht:ig bW i h_=true):
    eA H0 bW ro D ops.size h_=eA H0 bW ro (fun _=>true) i h_:=by
  unfold eA
  rw [← pQ (A:=fun j=>true && (!ro j && ig bW j h_)) (n:=ops.size) (by omega)]
  refine eH fun j hj=> ?_
  by_cases hd:ro j=false∧ig bW j h_=true
  · by_cases hji:j=i
    · subst hji;simp [hn]
    · have ho:=hR.HM j i h_ hj hi hji hd.1 hd.2 ht
      simp [hd.1,hd.2,hT j hj (by assumption) ho.symm]
  · have:(!ro j && ig bW j h_)=false:=by
      cases h1:ro j <;> cases h2:ig bW j h_ <;> simp_all
    simp [this]
theorem RG.wm {D:Nat→Bool}{i t:Nat}(hi:i<ops.size)(hn:D i=false):
  gp ops E0 bW (fun j=>D j || j == i) ops.size t=if fA ops i=some t then some (bW i).v else gp ops E0 bW D ops.size t:=by
 by_cases hd:fA ops i=some t
 ·rw [if_pos hd]
  unfold gp
  refine rK (A:=fun j=>D j && fA ops j == some t) hi (fun j hj hji=>by simp [beq_eq_false_iff_ne.2 hji]) (fun j hj hlt=> ?_) (by simp [hd])
  have hs:=mK hR.slots hi hj
  simp only [beq_iff_eq,Bool.or_eq_true,show ¬ i=j by omega,false_or,hd,Bool.and_eq_true,bne_iff_ne,ne_eq] at hs
  simp [hs.1]
 ·rw [if_neg hd]
  unfold gp
  refine eH fun j hj=> ?_
  by_cases hji:j=i
  ·subst hji;simp [hd,hn]
  ·simp [beq_eq_false_iff_ne.2 hji]
theorem RG.wo {D:Nat→Bool}{i:Nat}(hi:i<ops.size)(hn:D i=false)(hT:∀ j,j<ops.size→j≠i→(fq bs i j=true∨fq bs j i=true)→D j=decide (j<i))(hr:ro i=false):
  eA H0 bW ro (fun j=>D j || j == i) ops.size=zl (eA H0 bW ro D ops.size) (lk (bW i).F) (lk (bW i).F'):=by
 funext h_
 by_cases ht:ig bW i h_=true
 ·rw [fk (by
   simp only [ig,Bool.or_eq_true,Option.isSome_iff_ne_none] at ht
   exact ht)]
  unfold eA
  refine rK (A:=fun j=>D j && (!ro j && ig bW j h_)) hi (fun j hj hji=>by simp [beq_eq_false_iff_ne.2 hji]) (fun j hj hlt=> ?_) (by simp [hr,ht])
  by_cases hd:ro j=false∧ig bW j h_=true
  ·have ho:=hR.HM j i h_ hj hi (by omega) hd.1 hd.2 ht
   have:=hT j hj (by omega) ho.symm
   simp [this]
   omega
  ·have:(!ro j && ig bW j h_)=false:=by
    cases h1:ro j <;> cases h2:ig bW j h_ <;> simp_all
   simp [this]
 ·have hF:lk (bW i).F h_=none∧lk (bW i).F' h_=none:=by
   simp only [ig,Bool.or_eq_true,Option.isSome_iff_ne_none,not_or,Classical.not_not] at ht
   exact ht
  rw [c9 hF.1 hF.2]
  unfold eA
  refine eH fun j hj=> ?_
  by_cases hji:j=i
  ·subst hji;simp [hn,ht]
  ·simp [beq_eq_false_iff_ne.2 hji]
theorem RG.tZ {D:Nat→Bool}{i:Nat}(hr:ro i=true):eA H0 bW ro (fun j=>D j || j == i) ops.size=eA H0 bW ro D ops.size:=by
 funext h_
 unfold eA
 refine eH fun j hj=> ?_
 by_cases hji:j=i
 ·subst hji;simp [hr]
 ·simp [beq_eq_false_iff_ne.2 hji]
theorem RG.mono:∀ {i j:Nat},i≤j→kk i≤kk j:=by
 intro i j h
 induction j with
 | zero=>
   have:i=0:=by omega
   subst this;exact Nat.le_refl _
 | succ j ih=>
  by_cases hij:i=j+1
  ·subst hij;exact Nat.le_refl _
  ·have:=ih (by omega);rw [hR.IU];omega
omit hR
def qN (ops:Array Oper)(bW:Nat→j4)(kk:Nat→Nat)(D:Nat→Bool)(n:Nat):Prop:=∃ j,j<ops.size∧D j=true∧kk j≤n∧n<kk j+(bW j).nk
def pD (ops:Array Oper)(k0:Nat)(bW:Nat→j4)(kk:Nat→Nat)(D:Nat→Bool)(n:Nat):Prop:=n<k0∨qN ops bW kk D n
structure Inv (ops:Array Oper)(N:Nat)(E0:Nat→Option SV)(H0:Nat→Option Ob)(k0:Nat)(bW:Nat→j4)(ro:Nat→Bool)(kk:Nat→Nat)(bT:Nat→Nm)(M0:Mem)(w0:World)(df:List Deferred)(D:Nat→Bool)(a:Act)(w:World):Prop where
 ex:∃ μ M,(∀ t s,gp ops E0 bW D ops.size t=some s→Rp (pD ops k0 bW kk D) μ M s (a.tmps.getD t undef))∧bD (pD ops k0 bW kk D) μ M (eA H0 bW ro D ops.size) w∧
  Ev H0 (qN ops bW kk D) bT M0 w0 (eA H0 bW ro D ops.size) μ M w
 df:a.defers=df
 sz:a.tmps.size=N
theorem rM {a:Act}{d:Nat}{v:Value}(h:d<a.tmps.size):(a.put (some d) v).tmps.getD d undef=v:=by
 simp [Act.put,h]
theorem mL {a:Act}{d t:Nat}{v:Value}(h:t≠d):(a.put (some d) v).tmps.getD t undef=a.tmps.getD t undef:=by
 simp [Act.put,Array.getElem?_setIfInBounds_ne (Ne.symm h)]
theorem l5 {a:Act}{d:Option Nat}{v:Value}:(a.put d v).tmps.size=a.tmps.size:=by cases d <;> simp [Act.put]
theorem jN {a:Act}{d:Option Nat}{v:Value}:(a.put d v).defers=a.defers:=by cases d <;> rfl
theorem nG {a:Act}{j t:Nat}(hd:fA ops j=some t)(h:a.tmps.getD t undef=undef):yielded ops a.tmps j=none:=by
 unfold yielded
 unfold fA at hd
 rw [hd]
 simp only [Option.bind_some]
 rcases Nat.lt_or_ge t a.tmps.size with hl | hl
 ·rw [Array.getElem?_eq_getElem hl]
  rw [Array.getD_eq_getD_getElem?,Array.getElem?_eq_getElem hl] at h
  simp only [Option.getD_some] at h
  rw [h]
  rfl
 ·rw [Array.getElem?_eq_none hl]
theorem t_ {a:Act}{d:Nat}:(a.put (some d) undef).tmps.getD d undef=undef:=by
 rcases Nat.lt_or_ge d a.tmps.size with hl | hl
 ·exact rM hl
 ·rw [Array.getD_eq_getD_getElem?,Array.getElem?_eq_none (by rw [l5];exact hl)]
  rfl
theorem gq {a:Act}{j t:Nat}{b:Bool}(hd:fA ops j=some t)(h:a.tmps.getD t undef= .bool b):yielded ops a.tmps j=some b:=by
 unfold yielded
 unfold fA at hd
 rw [hd]
 have:a.tmps[t]? =some (.bool b):=by
  rcases Nat.lt_or_ge t a.tmps.size with hl | hl
  ·rw [Array.getElem?_eq_getElem hl]
   simp [hl] at h
   rw [h]
  ·simp [Array.getElem?_eq_none hl] at h
   cases h
 simp [this]
include hR in
theorem RG.step {rd:Option Nat}{bT:Nat→Nm}{M0:Mem}{w0:World}{df:List Deferred}{D:Nat→Bool}{i:Nat}{o:Oper}(ho:ops[i]? =some o)(hn:D i=false)(hT:∀ j,j<ops.size→j≠i→(fq bs i j=true∨fq bs j i=true)→D j=decide (j<i))
  (hs:pR P ops (gp ops E0 bW (fun _=>true) i) (eA H0 bW ro (fun _=>true) i) (kk i) o (bW i)) {a:Act} {w:World} {Q:Exit→Act→World→Prop}
  (hI:Inv ops N E0 H0 k0 bW ro kk bT M0 w0 df D a w)  :wpOpIn (iJ rd) 0 P ops Q i (Inv ops N E0 H0 k0 bW ro kk bT M0 w0 df (fun j=>D j || j == i)) a w:=by
 have hi:i<ops.size:=(Array.getElem?_eq_some_iff.1 ho).1
 obtain ⟨⟨μ,M,f_,hS,hE⟩,hdf,hsz⟩:=hI
 have hslot:∀ t,t∈looks ops i→∀ s,gp ops E0 bW (fun _=>true) i t=some s→gp ops E0 bW D ops.size t=some s:=fun t ht s h=>by
  rw [hR.D9 hi hn hT ht];exact h
 have hdst:fA ops i=o.dst:=by simp [fA,ho]
 unfold wpOpIn
 simp only [ho]
 rcases hs with ⟨j,want,t,sv,hg,hd,hE',hb,e1,e2,e3,e4⟩ | ⟨hg,hOT,hsub⟩
 ·have hv:=f_ t _ (hslot t (qC ho hg hd) _ hE')
  have hw:Region.wanted o (yielded ops a.tmps)=false:=by
   simp only [Region.wanted,hg]
   unfold kf at hb
   split at hb
   ·rw [gq hd (Rp.br.1 hv)]
    simpa using hb
   ·obtain ⟨vs,e,hvs⟩:=Rp.dI.1 hv
    have hvs0:vs= #[]:=by have:=aM.aN.1 hvs;simpa using this
    rw [nG hd (by rw [e,hvs0];rfl)]
    rfl
   ·cases hb
  simp only [hw,Bool.false_eq_true,if_false]
  have hnew:qN ops bW kk (fun j=>D j || j == i)=qN ops bW kk D:=by
   funext n
   apply propext
   constructor
   ·rintro ⟨j',h1,h2,h3,h4⟩
    by_cases hji:j'=i
    ·subst hji;omega
    ·exact ⟨j',h1,by simpa [beq_eq_false_iff_ne.2 hji] using h2,h3,h4⟩
   ·rintro ⟨j',h1,h2,h3,h4⟩
    exact ⟨j',h1,by simp [h2],h3,h4⟩
  have hpd:pD ops k0 bW kk (fun j=>D j || j == i)=pD ops k0 bW kk D:=by
   unfold pD;rw [hnew]
  have hcont:eA H0 bW ro (fun j=>D j || j == i) ops.size=eA H0 bW ro D ops.size:=by
   cases hr:ro i with
   | true=>exact hR.tZ hr
   | false=>
    rw [hR.wo hi hn hT hr,e2,e3]
    funext h_
    exact c9 rfl rfl
  refine ⟨fun _ _=>trivial,⟨⟨μ,M,fun t s h=> ?_,by rw [hpd,hcont];exact hS,by rw [hnew,hcont];exact hE⟩,by rw [jN];exact hdf,by rw [l5];exact hsz⟩⟩
  rw [hR.wm hi hn] at h
  rw [hpd]
  split at h
  ·rename_i heq
   rw [e1] at h
   injection h with h
   subst h
   rw [hdst] at heq
   rw [heq,t_]
   exact Rp.dI.2 ⟨#[],rfl,aM.aN.2 rfl⟩
  ·rename_i hne
   rw [hdst] at hne
   cases hod:o.dst with
   | none=>exact f_ t s h
   | some d=>rw [mL (fun e=>hne (by rw [hod,e]))];exact f_ t s h
 ·have hw:Region.wanted o (yielded ops a.tmps)=true:=by
   rcases hg with hg | ⟨j,want,t,hg,hd,hE'⟩
   ·simp [Region.wanted,hg]
   ·have hv:=Rp.br.1 (f_ t _ (hslot t (qC ho hg hd) _ hE'))
    simp only [Region.wanted,hg,gq hd hv]
    simp
  simp only [hw,if_true]
  have hnewp:∀ n,(kk i≤n∧n<kk i+(bW i).nk)→ ¬ pD ops k0 bW kk D n:=by
   rintro n ⟨h1,h2⟩ (h3 | ⟨j,hj,hDj,h4,h5⟩)
   ·have:=hR.mono (Nat.zero_le i);rw [hR.IT] at this;omega
   ·rcases Nat.lt_trichotomy j i with hlt | heq | hgt
    ·have:=hR.mono (show j+1≤i by omega);rw [hR.IU] at this;omega
    ·subst heq;rw [hDj] at hn;cases hn
    ·have:=hR.mono (show i+1≤j by omega);rw [hR.IU] at this;omega
  have hsub':∀ h_ ob,lk (bW i).F h_=some ob→eA H0 bW ro D ops.size h_=some ob:=fun h_ ob h=>by
   rw [hR.D_ hi hn hT (by simp [ig,h])]
   exact hsub h_ ob h
  refine hOT.facts (fun t ht s h=>hslot t (An ho ht) s h) rd (pD ops k0 bW kk D) μ M a w _ Q hnewp ⟨fun t ht s h=>f_ t s h,hS.mem.jK⟩ (hS.sub hsub') fun u aY M' w' hu qG hE'=> ?_
  have hpeq:(fun n=>pD ops k0 bW kk D n∨(kk i≤n∧n<kk i+(bW i).nk))=pD ops k0 bW kk (fun j=>D j || j == i):=by
   funext n
   apply propext
   constructor
   ·rintro ((h | ⟨j,hj,h1,h2⟩) | h)
    ·exact .inl h
    ·exact .inr ⟨j,hj,by simp [h1],h2⟩
    ·exact .inr ⟨i,hi,by simp,h⟩
   ·rintro (h | ⟨j,hj,h1,h2⟩)
    ·exact .inl (.inl h)
    ·by_cases hji:j=i
     ·subst hji;exact .inr h2
     ·exact .inl (.inr ⟨j,hj,by simpa [beq_eq_false_iff_ne.2 hji] using h1,h2⟩)
  have hneq:(fun n=>qN ops bW kk D n∨(kk i≤n∧n<kk i+(bW i).nk))=qN ops bW kk (fun j=>D j || j == i):=by
   funext n
   apply propext
   constructor
   ·rintro (⟨j,hj,h1,h2⟩ | h)
    ·exact ⟨j,hj,by simp [h1],h2⟩
    ·exact ⟨i,hi,by simp,h⟩
   ·rintro ⟨j,hj,h1,h2⟩
    by_cases hji:j=i
    ·subst hji;exact .inr h2
    ·exact .inl ⟨j,hj,by simpa [beq_eq_false_iff_ne.2 hji] using h1,h2⟩
  have hfr:=hS.xY hsub' hnewp hE' qG fun n h=> .inl h
  rw [hpeq] at hu hfr
  have hcont:eA H0 bW ro (fun j=>D j || j == i) ops.size=zl (eA H0 bW ro D ops.size) (lk (bW i).F) (lk (bW i).F'):=by
   cases hr:ro i with
   | false=>exact hR.wo hi hn hT hr
   | true=>
    rw [hR.tZ hr,hR.Jq i hr]
    funext h_
    by_cases h:lk (bW i).F h_=none
    ·rw [c9 h h]
    ·rw [fk (.inl h)]
     obtain ⟨ob,aZ⟩:=Option.ne_none_iff_exists'.1 h
     rw [aZ];exact hsub' h_ ob aZ
  refine ⟨⟨aY,M',fun t s h=> ?_,by rw [hcont];exact hfr.1,?_⟩,by rw [jN];exact hdf,by rw [l5];exact hsz⟩
  ·rw [hR.wm hi hn] at h
   have hold:∀ s,gp ops E0 bW D ops.size t=some s→Rp (pD ops k0 bW kk (fun j=>D j || j == i)) aY M' s (a.tmps.getD t undef):=fun s h=>by
    rw [← hpeq]
    exact (f_ t s h).more (fun n h=> .inl h) (fun n h=>hE'.old n fun h'=>hnewp n h' h) hE'.mem
   split at h
   ·rename_i hd
    injection h with h
    subst h
    rw [hdst] at hd
    rw [hd,rM (by rw [hsz];exact hR.Jp i t (by rw [hdst,hd]))]
    exact hu
   ·rename_i hne
    rw [hdst] at hne
    cases hod:o.dst with
    | none=>exact hold s h
    | some d=>rw [mL (fun e=>hne (by rw [hod,e]))];exact hold s h
  ·rw [hcont]
   have:=hE.trans hfr.2
   rwa [hneq] at this
theorem Inv.congr {bT:Nat→Nm}{M0:Mem}{w0:World}{df:List Deferred}{D D':Nat→Bool}{a:Act}{w:World}(h:Inv ops N E0 H0 k0 bW ro kk bT M0 w0 df D a w)(hD:∀ j,j<ops.size→D j=D' j):Inv ops N E0 H0 k0 bW ro kk bT M0 w0 df D' a w:=by
 have e1:gp ops E0 bW D ops.size=gp ops E0 bW D' ops.size:=funext fun t=>eH fun i hi=>by rw [hD i hi]
 have e2:eA H0 bW ro D ops.size=eA H0 bW ro D' ops.size:=funext fun t=>eH fun i hi=>by rw [hD i hi]
 have e3:qN ops bW kk D=qN ops bW kk D':=funext fun n=>propext ⟨fun ⟨j,h1,h2,h3⟩=>⟨j,h1,by rw [← hD j h1];exact h2,h3⟩,fun ⟨j,h1,h2,h3⟩=>⟨j,h1,by rw [hD j h1];exact h2,h3⟩⟩
 have e4:pD ops k0 bW kk D=pD ops k0 bW kk D':=by unfold pD;rw [e3]
 obtain ⟨⟨μ,M,h1,h2,h3⟩,h4,h5⟩:=h
 rw [e1,e4] at h1
 rw [e4,e2] at h2
 rw [e3,e2] at h3
 exact ⟨⟨μ,M,h1,h2,h3⟩,h4,h5⟩
def gr (listed:Array Bool):Nat→Nat
 | 0=>0
 | n+1=>gr listed n+if listed.getD n true then 0 else 1
theorem nH {listed:Array Bool}{i:Nat}(hu:listed.getD i true=false):∀ n,gr (listed.setIfInBounds i true) n+(if i<n then 1 else 0)=gr listed n
 | 0=>by simp [gr]
 | n + 1=>by
  have ih:=nH hu n
  simp only [gr]
  by_cases hn:n=i
  ·subst hn
   have hlt:n<listed.size:=by
    rcases Nat.lt_or_ge n listed.size with h | h
    ·exact h
    ·simp [Array.getElem?_eq_none h] at hu
   have h1:(listed.setIfInBounds n true).getD n true=true:=by simp [hlt]
   rw [h1,hu]
   simp at ih ⊢
   omega
  ·rw [getD_set_ne true (Ne.symm hn)]
   by_cases hlt:i<n
   ·simp [hlt] at ih
    simp [show i<n+1 by omega]
    omega
   ·simp [hlt] at ih
    simp [show ¬ i<n+1 by omega]
    omega
theorem l6 {listed:Array Bool}:∀ {n:Nat},gr listed n=0→∀ j,j<n→listed.getD j true=true
 | 0,_,j,h=>by omega
 | n +1,h,j,hj=>by
  simp only [gr] at h
  by_cases hn:j=n
  ·subst hn
   cases hh:listed.getD j true with
   | true=>rfl
   | false=>rw [hh] at h;simp at h
  ·exact l6 (n:=n) (by omega) j (by omega)
theorem nI {listed:Array Bool}{n:Nat}(h:∀ j,j<n→listed.getD j true=true):gr listed n=0:=by
 induction n with
 | zero=>rfl
 | succ n ih=>simp only [gr,h n (by omega),ih fun j hj=>h j (by omega)];rfl
theorem ua (hb:okB ops bs=true){listed:Array Bool}(hsz:listed.size=ops.size)(h:Region.ready .any ops listed=[]):∀ j,j<ops.size→listed.getD j true=true:=by
 intro j
 induction j using Nat.strongRecOn with
 | _ j ih=>
  intro hj
  cases hl:listed.getD j true with
  | true=>rfl
  | false=>
   exfalso
   have:j∈Region.ready .any ops listed:=mem_ready.2 ⟨hl,ops[j],Array.getElem?_eq_getElem hj,fun e he hbd=>by
    simp only [okB,Bool.and_eq_true] at hb
    have h2:=List.all_eq_true.1 hb.2 j (List.mem_range.2 hj)
    rw [Array.getElem?_eq_getElem hj] at h2
    simp only [Option.map_some,Option.getD_some] at h2
    have h3:=Array.all_eq_true_iff_forall_mem.1 h2 e he
    simp only [hbd,Bool.not_true,Bool.false_or,decide_eq_true_eq] at h3
    have h4:=ih e.on h3 (by omega)
    have hlt:e.on<listed.size:=by omega
    simp [hlt] at h4 ⊢
    exact h4⟩
   rw [h] at this
   cases this
theorem RG.drawn {rd:Option Nat}(hR:RG P ops bs N E0 H0 k0 bW ro kk)(hb:okB ops bs=true)
  (hs:∀ (i:Nat) (o:Oper),ops[i]? =some o→pR P ops (gp ops E0 bW (fun _=>true) i) (eA H0 bW ro (fun _=>true) i) (kk i) o (bW i))
  {bT:Nat→Nm} {M0:Mem} {w0:World} {df:List Deferred} {Q:Exit→Act→World→Prop} (hQ:∀ a w,Inv ops N E0 H0 k0 bW ro kk bT M0 w0 df (fun _=>true) a w→Q .normal a w):
  ∀ (fuel:Nat) (listed:Array Bool) (a:Act) (w:World),listed.size=ops.size→gr listed ops.size=fuel→rL ops (fun j=>listed.getD j false)→Inv ops N E0 H0 k0 bW ro kk bT M0 w0 df (fun j=>listed.getD j false) a w→
   wpAnyIn (iJ rd) 0 P .any ops Q fuel listed a w:=by
 have same:∀ (listed:Array Bool),listed.size=ops.size→∀ j,j<ops.size→listed.getD j true=listed.getD j false:=fun listed hl j hj=>by simp [show j<listed.size by omega]
 intro fuel
 induction fuel with
 | zero=>
  intro listed a w hl hcnt hc hI
  have hall:=l6 hcnt
  refine ⟨?_,hQ a w (hI.congr fun j hj=>by rw [← same listed hl j hj];exact hall j hj)⟩
  refine List.eq_nil_iff_forall_not_mem.2 fun i hi=> ?_
  obtain ⟨h1,o,h2,_⟩:=mem_ready.1 hi
  rw [hall i (Array.getElem?_eq_some_iff.1 h2).1] at h1
  cases h1
 | succ fuel ih=>
  intro listed a w hl hcnt hc hI
  refine ⟨fun h=> ?_,fun i hi=> ?_⟩
  ·have:=nI (ua hb hl h)
   omega
  ·obtain ⟨h1,o,h2,h3⟩:=mem_ready.1 hi
   have hi':i<ops.size:=(Array.getElem?_eq_some_iff.1 h2).1
   have hn:listed.getD i false=false:=by rw [← same listed hl i hi'];exact h1
   have hp:zw ops (fun j=>listed.getD j false) i:=fun o' ho' e he hbd=>by
    rw [h2] at ho';injection ho' with ho';subst ho'
    exact h3 e he hbd
   refine wpOpIn_mono (fun a' w' hI'=> ?_) (hR.step h2 hn (fun j hj hji ho=>IV hb hc hi' hj hn hp ho) (hs i o h2) hI)
   have hD:∀ j,(listed.getD j false || j == i)=(listed.setIfInBounds i true).getD j false:=fun j=>by
    by_cases hji:j=i
    ·subst hji
     simp [show j<listed.size by omega]
    ·rw [getD_set_ne false (Ne.symm hji)]
     simp [beq_eq_false_iff_ne.2 hji]
   refine ih (listed.setIfInBounds i true) a' w' (by simpa using hl) (by have:=nH h1 ops.size;simp [hi'] at this;omega) (fun j o' hDj ho' e he hbd=> ?_) (hI'.congr fun j _=>hD j)
   simp only [← hD] at hDj ⊢
   simp only [Bool.or_eq_true,beq_iff_eq] at hDj
   rcases hDj with h | rfl
   ·simp [hc j o' h ho' e he hbd]
   ·rw [h2] at ho';injection ho' with ho';subst ho'
    have:=h3 e he hbd
    simp [this]
theorem RG.Ea {rd:Option Nat}(hR:RG P ops bs N E0 H0 k0 bW ro kk)
  (hs:∀ (i:Nat) (o:Oper),ops[i]? =some o→pR P ops (gp ops E0 bW (fun _=>true) i) (eA H0 bW ro (fun _=>true) i) (kk i) o (bW i))
  {bT:Nat→Nm} {M0:Mem} {w0:World} {df:List Deferred} {Q:Exit→Act→World→Prop} (hQ:∀ a w,Inv ops N E0 H0 k0 bW ro kk bT M0 w0 df (fun _=>true) a w→Q .normal a w):
  ∀ (m k:Nat) (a:Act) (w:World),k+m=ops.size→Inv ops N E0 H0 k0 bW ro kk bT M0 w0 df (fun j=>decide (j<k)) a w→wpOpsIn (iJ rd) 0 P ops Q (List.range' k m) a w:=by
 intro m
 induction m with
 | zero=>
  intro k a w hk hI
  simp only [List.range',wpOpsIn]
  exact hQ a w (hI.congr fun j hj=>by simp;omega)
 | succ m ih=>
  intro k a w hk hI
  rw [List.range'_succ,wpOpsIn_cons]
  have hkn:k<ops.size:=by omega
  refine wpOpIn_mono (fun a' w' hI'=> ?_) (hR.step (Array.getElem?_eq_getElem hkn) (by simp) (fun j _ _ _=>rfl) (hs k _ (Array.getElem?_eq_getElem hkn)) hI)
  exact ih (k+1) a' w' (by omega) (hI'.congr fun j _=>by
   by_cases h1:j=k
   ·subst h1;simp
   ·simp [beq_eq_false_iff_ne.2 h1];omega)
end
end
section
def iL (P:Program)(f:FuncId):Bool:=
 match P.funcs[f]? with
 | some fn=>fn.name != "runtime.NumGoroutine" && fn.body.isSome
 | none=>false
def SC (P:Program)(f:FuncId)(args:List SV)(F:Hp)(k nk:Nat)(Q:SV→Hp→Prop):Prop:=
 iL P f=true∧
 ∀ (p:Nat→Prop) (μ:Nat→Nm) (M:Mem) (w:World) (vals:Array Value),(∀ n,(k≤n∧n<k+nk)→ ¬ p n)→aM p μ M args vals.toList→bD p μ M (lk F) w→
  Calls P f vals w fun e w'=>∃ r F' aY M' u,e= .returned u∧Q r F'∧Rp (fun n=>p n∨(k≤n∧n<k+nk)) aY M' r u∧bD (fun n=>p n∨(k≤n∧n<k+nk)) aY M' (lk F') w'∧
   Ev (lk F) (fun n=>k≤n∧n<k+nk) μ M w (lk F') aY M' w'
def bp (P:Program)(f:FuncId)(args:List SV)(F:Hp)(k nk:Nat)(v:SV)(F':Hp):Prop:=SC P f args F k nk fun r h=>r=v∧h=F'
theorem SC.mono {P:Program}{f:FuncId}{args:List SV}{F:Hp}{k nk:Nat}{Q Q':SV→Hp→Prop}(h:SC P f args F k nk Q)(hq:∀ r F',Q r F'→Q' r F'):SC P f args F k nk Q':=
 ⟨h.1,fun p μ M w vals h1 h2 h3=>(h.2 p μ M w vals h1 h2 h3).mono fun e w' ⟨r,F',aY,M',u,a,b,c⟩=>⟨r,F',aY,M',u,a,hq r F' b,c⟩⟩
def BO (P:Program)(l:Nat)(vals:Array Value)(w:World)(R:Ending→World→Prop):Prop:=
 ∃ fn tmps assign body,(Instr.yield l vals).run P w= .ok (.round l fn tmps assign body) w∧RoundIn (iJ none) 0 P l fn tmps assign body w R
def SY (P:Program)(nl:Nat)(args:List SV)(F:Hp)(k nk:Nat)(Q:SV→Hp→Prop):Prop:=
 ∀ (p:Nat→Prop) (μ:Nat→Nm) (M:Mem) (w:World) (vals:Array Value),(∀ n,(k≤n∧n<k+nk)→ ¬ p n)→p nl→aM p μ M args vals.toList→bD p μ M (lk F) w→
  BO P (μ nl).blk vals w fun e w'=>∃ r F' aY M' u,e= .returned u∧Q r F'∧Rp (fun n=>p n∨(k≤n∧n<k+nk)) aY M' r u∧bD (fun n=>p n∨(k≤n∧n<k+nk)) aY M' (lk F') w'∧
   Ev (lk F) (fun n=>k≤n∧n<k+nk) μ M w (lk F') aY M' w'
def Hh (P:Program)(nl:Nat)(args:List SV)(F:Hp)(k nk:Nat)(v:SV)(F':Hp):Prop:=SY P nl args F k nk fun r h=>r=v∧h=F'
section
variable {P:Program}
theorem kP {w:World}{f:FuncId}(h:iL P f=true)(args:Array Value):(callFunc f args).run P w= .ok (.enter f args) w:=by
 unfold iL at h
 split at h <;> first | (cases h;done) | skip
 rename_i fn hf
 simp only [Bool.and_eq_true,bne_iff_ne,ne_eq] at h
 obtain ⟨c,hc⟩:=Option.isSome_iff_exists.1 h.2
 simp [callFunc,hf,h.1,hc]
theorem zx {o:Oper}{E:Nat→Option SV}{c:Call}{fo:Operand}{f':X}{as':List X}{fid:FuncId}{first cap as:List SV}{F:Hp}{k nk:Nat}{Q:SV→Hp→Prop}
  (ho:o.op= .call c) (bI:c.callee= .value fo) (hf:cX fo=some f') (ha:Br c.args.toList=some as') (h1:ev E f'=some (.fn (.func fid) first cap)) (h2:qu E as'=some as)
  (DM:SC P fid (first++as++cap) F k nk Q) {rd:Option Nat} {p:Nat→Prop} {μ:Nat→Nm} {M:Mem} {a:Act} {w:World} {K:Act→World→Prop} {QQ:Exit→Act→World→Prop} (hnew:∀ n,(k≤n∧n<k+nk)→ ¬ p n)
  (hk:fW E o.op.operands p μ M a) (hS:bD p μ M (lk F) w)
  (hK:∀ r F' u aY M' w',Q r F'→Rp (fun n=>p n∨(k≤n∧n<k+nk)) aY M' r u→bD (fun n=>p n∨(k≤n∧n<k+nk)) aY M' (lk F') w'→Ev (lk F) (fun n=>k≤n∧n<k+nk) μ M w (lk F') aY M' w'→K (a.put o.dst u) w'):
  o.wpIn (iJ rd) 0 P a w K QQ:=by
 have hin:fo∈o.op.operands:=by simp [ho,Op.operands,Call.operands,bI]
 have hin2:∀ x∈c.args.toList,x∈o.op.operands:=fun x hx=>by
  rw [ho];simp only [Op.operands,Call.operands,bI,Array.mem_append];exact .inr (by simpa using hx)
 obtain ⟨fs,cs,e1,r1,r2⟩:=Rp.pJ.1 (hk.get hin hf h1)
 have r3:=hk.BB hin2 ha h2
 have hargs:aM p μ M (first++as++cap) (fs++c.args.map a.eval++cs).toList:=by
  simpa using (r1.append r3).append r2
 have hrun:(execOp a.eval o).run P w= .ok (.enter fid (fs++c.args.map a.eval++cs)) w:=by
  simp only [execOp,ho,resolve,bI,e1,Deferred.ofValue,Sem.run_bind,Sem.run_pure,Result.andThen_ok,invoke,kP DM.1]
 refine ⟨fun _ _=>trivial,?_⟩
 rw [mI (fun d e=>by cases e) hrun,Oper.uponIn_enter]
 refine ⟨(fun h=>by cases h),pK.2 ?_⟩
 refine (DM.2 p μ M w _ hnew hargs hS).mono ?_
 rintro e w' ⟨r,F',aY,M',u,rfl,hq,hr,qG,hE⟩
 exact hK r F' u aY M' w' hq hr qG hE
theorem wq {o:Oper}{E:Nat→Option SV}{c:Call}{fo:Operand}{f':X}{as':List X}{nl:Nat}{as:List SV}{F:Hp}{k nk:Nat}{Q:SV→Hp→Prop}
  (ho:o.op= .call c) (bI:c.callee= .value fo) (hf:cX fo=some f') (ha:Br c.args.toList=some as') (h1:ev E f'=some (.yl nl)) (h2:qu E as'=some as) (hF:lk F nl≠none)
  (DM:SY P nl as F k nk Q) {rd:Option Nat} {p:Nat→Prop} {μ:Nat→Nm} {M:Mem} {a:Act} {w:World} {K:Act→World→Prop} {QQ:Exit→Act→World→Prop} (hnew:∀ n,(k≤n∧n<k+nk)→ ¬ p n)
  (hk:fW E o.op.operands p μ M a) (hS:bD p μ M (lk F) w)
  (hK:∀ r F' u aY M' w',Q r F'→Rp (fun n=>p n∨(k≤n∧n<k+nk)) aY M' r u→bD (fun n=>p n∨(k≤n∧n<k+nk)) aY M' (lk F') w'→Ev (lk F) (fun n=>k≤n∧n<k+nk) μ M w (lk F') aY M' w'→K (a.put o.dst u) w'):
  o.wpIn (iJ rd) 0 P a w K QQ:=by
 have hin:fo∈o.op.operands:=by simp [ho,Op.operands,Call.operands,bI]
 have hin2:∀ x∈c.args.toList,x∈o.op.operands:=fun x hx=>by
  rw [ho];simp only [Op.operands,Call.operands,bI,Array.mem_append];exact .inr (by simpa using hx)
 have e1:a.eval fo= .func (.yield (μ nl).blk) #[] #[]:=by simpa [bY] using (hk.get hin hf h1).rep
 have r3:=hk.BB hin2 ha h2
 have hargs:aM p μ M as (c.args.map a.eval).toList:=by simpa using r3
 obtain ⟨ob,aZ⟩:=Option.ne_none_iff_exists'.1 hF
 obtain ⟨fn,tmps,assign,body,hy,hround⟩:=DM p μ M w _ hnew (hS.obs nl ob aZ).1 hargs hS
 have hrun:(execOp a.eval o).run P w= .ok (.round (μ nl).blk fn tmps assign body) w:=by
  simp only [execOp,ho,resolve,bI,e1,Deferred.ofValue,Sem.run_bind,Sem.run_pure,Result.andThen_ok,invoke]
  simpa using hy
 refine ⟨fun _ _=>trivial,?_⟩
 rw [mI (fun d e=>by cases e) hrun,Oper.uponIn_round]
 refine ⟨(fun h=>by cases h),RoundIn.mono (show RoundIn (iJ rd) (0 - 1) P _ _ _ _ _ _ _ from hround) ?_⟩
 rintro e w' ⟨r,F',aY,M',u,rfl,hq,hr,qG,hE⟩
 exact hK r F' u aY M' w' hq hr qG hE
structure SI where
 dst:Option Nat
 op:SO
 g:Option (Nat×Bool)
def nr (P:Program)(ops:Array Oper)(o:Oper):Option SI:=
 match cO P o.op with
 | some so=>match o.guard with
  | none=>some ⟨o.dst,so,none⟩
  | some (j,w)=>match fA ops j with
   | some t=>some ⟨o.dst,so,some (t,w)⟩
   | none=>none
 | none=>none
def rN (P:Program)(ops:Array Oper):List Oper→Option (List SI)
 | []=>some []
 | o::r=>match nr P ops o,rN P ops r with
  | some s,some ss=>some (s::ss)
  | _,_=>none
structure St where
 env:List (Nat×SV)
 hp:Hp
 k:Nat
inductive CR where
 | own
 | gu
 | call (F:Hp) (v:SV) (F':Hp) (nk:Nat)
 | Jf (pt:FuncId→List SV→Option SV)
def HSub (F h:Hp):Prop:=∀ n ob,lk F n=some ob→lk h n=some ob
def ek (P:Program)(st:St)(so:SO)(dw:List CR):Option (j4×List CR):=
 match so with
 | .call f args=>match ev (fun t=>st.env.lookup t) f,qu (fun t=>st.env.lookup t) args,dw with
  | some (.fn (.func fid) first cap),some as,.call F v F' nk::crs'=>some (⟨v,F,F',nk,bp P fid (first++as++cap) F st.k nk v F'∧HSub F st.hp⟩,crs')
  | some (.fn (.func fid) first cap),some as,.Jf pt::crs'=>match pt fid (first++as++cap) with
   | some v=>some (⟨v,[],[],0,bp P fid (first++as++cap) [] st.k 0 v []∧HSub [] st.hp⟩,.Jf pt::crs')
   | none=>none
  | some (.yl nl),some as,.call F v F' nk::crs'=>some (⟨v,F,F',nk,Hh P nl as F st.k nk v F'∧lk F nl≠none∧HSub F st.hp⟩,crs')
  | _,_,_=>none
 | .jL e sz len z parts=>match dw with
  | .own::crs'=>match cQ (fun t=>st.env.lookup t) (lk st.hp) st.k true (.jL e sz len z parts) with
   | some e=>some (e,crs')
   | none=>none
  | .gu::crs'=>match cQ (fun t=>st.env.lookup t) (lk st.hp) st.k false (.jL e sz len z parts) with
   | some e=>some (e,crs')
   | none=>none
  | dw=>match cQ (fun t=>st.env.lookup t) (lk st.hp) st.k false (.jL e sz len z parts) with
   | some e=>some (e,dw)
   | none=>none
 | so=>match cQ (fun t=>st.env.lookup t) (lk st.hp) st.k false so with
  | some e=>some (e,dw)
  | none=>none
def eX (P:Program)(st:St)(si:SI)(dw:List CR):Option (j4×List CR):=
 match si.g with
 | none=>ek P st si.op dw
 | some (t,w)=>match st.env.lookup t with
  | some (.d (.bool b))=>if b == w then ek P st si.op dw else some (⟨.cg [],[],[],0,True⟩,dw)
  | some (.cg [])=>some (⟨.cg [],[],[],0,True⟩,dw)
  | _=>none
def ia:Hp→Nat→Ob→Hp
 | [],n,ob=>[(n,ob)]
 | (m,o)::h,n,ob=>if m=n then (n,ob)::h else (m,o)::ia h n ob
def iM (h:Hp)(n:Nat)(ob:Ob):Hp:=match lk h n with
 | some _=>ia h n ob
 | none=>(n,ob)::h
def dx:Hp→Nat→Hp
 | [],n=>[]
 | (m,o)::h,n=>if m=n then dx h n else (m,o)::dx h n
def dM (h:Hp):Hp→Hp
 | []=>h
 | (n,ob)::r=>iM (dM h r) n ob
def dN (h:Hp)(F':Hp):Hp→Hp
 | []=>h
 | (n,_)::r=>if (lk F' n).isSome then dN h F' r else dx (dN h F' r) n
def cH (ro:Bool)(h F F':Hp):Hp:=if ro then h else dM (dN h F' F) F'
theorem qT:∀ (h:Hp) (n:Nat) (ob:Ob) (m:Nat),lk (ia h n ob) m=if m=n then some ob else lk h m
 | [],n,ob,m=>by simp only [ia];rw [bC];rfl
 | (q, o)::h,n,ob,m=>by
  simp only [ia]
  split
  ·rename_i e
   subst e
   rw [ag,ag]
   split <;> rfl
  ·rename_i e
   rw [ag,ag,qT h n ob m]
   by_cases h2:m=n
   ·subst h2
    have:m≠q:=fun h=>e h.symm
    simp [this]
   ·simp [h2]
theorem oJ (h:Hp)(n:Nat)(ob:Ob)(m:Nat):lk (iM h n ob) m=if m=n then some ob else lk h m:=by
 unfold iM
 split
 ·exact qT h n ob m
 ·have:lk ((n,ob)::h) m=if m=n then some ob else lk h m:=by
   unfold lk
   simp only [List.lookup]
   by_cases e:m=n
   ·subst e;simp
   ·rw [if_neg e,show (m == n)=false by simpa using e]
  exact this
theorem eM:∀ (h:Hp) (n m:Nat),lk (dx h n) m=if m=n then none else lk h m
 | [],n,m=>by simp [dx,bA]
 | (q, o)::h,n,m=>by
  simp only [dx]
  split
  ·rename_i e
   subst e
   rw [eM h q m,ag]
   split <;> rfl
  ·rename_i e
   rw [ag,ag,eM h n m]
   by_cases h2:m=n
   ·subst h2
    have:m≠q:=fun h=>e h.symm
    simp [this]
   ·simp [h2]
theorem wu (h:Hp):∀ (F':Hp) (m:Nat),lk (dM h F') m=match lk F' m with
  | some ob=>some ob
  | none=>lk h m
 | [],m=>by simp [dM,bA]
 | (n,ob)::r,m=>by
  simp only [dM]
  rw [oJ,wu h r m,ag]
  by_cases h1:m=n <;> simp [h1]
theorem rO (h F':Hp):∀ (F:Hp) (m:Nat),lk (dN h F' F) m=if (lk F m).isSome && (lk F' m).isNone then none else lk h m
 | [],m=>by simp [dN,bA]
 | (n, ob)::r,m=>by
  simp only [dN]
  split
  ·rename_i h1
   rw [rO h F' r m,ag]
   by_cases h2:m=n
   ·subst h2
    have:(lk F' m).isNone=false:=by
     cases hh:lk F' m with
     | none=>rw [hh] at h1;cases h1
     | some _=>rfl
    simp [this]
   ·simp [h2]
  ·rename_i h1
   rw [eM,rO h F' r m,ag]
   by_cases h2:m=n
   ·subst h2
    simp at h1
    simp [h1]
   ·simp [h2]
theorem jc {ro:Bool}{h F F':Hp}(hs:HSub F h)(hr:ro=true→F'=F):lk (cH ro h F F')=zl (lk h) (lk F) (lk F'):=by
 funext m
 unfold cH
 cases ro with
 | true=>
  rw [hr rfl]
  by_cases h1:lk F m=none
  ·rw [c9 h1 h1];rfl
  ·rw [fk (.inl h1)]
   obtain ⟨ob,aZ⟩:=Option.ne_none_iff_exists'.1 h1
   rw [aZ]
   exact hs m ob aZ
 | false=>
  simp only [Bool.false_eq_true,if_false]
  rw [wu,rO]
  cases h1:lk F' m with
  | some ob=>rw [fk (.inr (by rw [h1];simp))];simp [h1]
  | none=>
   cases h2:lk F m with
   | some ob=>rw [fk (.inl (by rw [h2];simp))];simp [h1]
   | none=>rw [c9 h2 h1];simp
def jO (st:St)(si:SI)(e:j4):St:=
 ⟨match si.dst with | some d=>(d,e.v)::st.env | none=>st.env,cH (bZ si.op) st.hp e.F e.F',st.k+e.nk⟩
def gd (si:SI)(e:j4):Bool×List Nat:=(bZ si.op,e.F.map (·.1)++e.F'.map (·.1))
def runs (P:Program):List SI→St→List CR→Option (St×Prop×List (Bool×List Nat))
 | [],st,_=>some (st,True,[])
 | si::r,st,dw=>match eX P st si dw with
  | some (e,crs')=>match runs P r (jO st si e) crs' with
   | some (st',ob,ts)=>some (st',e.ob∧ob,gd si e::ts)
   | none=>none
  | none=>none
def kQ (bs:List Nat)(ts:List (Bool×List Nat)):Bool:=
 tK ts.length fun i j=>i == j || (ts.getD i (true,[])).1 || !((ts.getD i (true,[])).2.any fun n=>(ts.getD j (true,[])).2.contains n) || fq bs i j || fq bs j i
def lR (n:Nat):List Nat:=(List.range n).map fun j=>2 ^ j - 1
def trace (P:Program):List SI→St→List CR→List j4
 | [],_,_=>[]
 | si::r,st,dw=>match eX P st si dw with
  | some (e,crs')=>e::trace P r (jO st si e) crs'
  | none=>[]
def iN:List SI→St→List j4→Nat→St
 | si::r,st,e::es,i+1=>iN r (jO st si e) es i
 | _,st,_,_=>st
theorem oK {st':St}:∀ {ck:List SI} {st:St} {dw:List CR} {ob:Prop} {ts:List (Bool×List Nat)},runs P ck st dw=some (st',ob,ts)→(trace P ck st dw).length=ck.length∧ts=(List.zipWith gd ck (trace P ck st dw))∧
  (ob→∀ e∈trace P ck st dw,e.ob)∧st'=iN ck st (trace P ck st dw) ck.length
 | [],st,dw,ob,ts,h=>by
  simp [runs] at h
  obtain ⟨rfl,_,rfl⟩:=h
  simp [trace,iN]
 | si::r,st,dw,ob,ts,h=>by
  simp only [runs] at h
  split at h <;> first | (cases h;done) | skip
  rename_i e crs' he
  split at h <;> first | (cases h;done) | skip
  rename_i st2 DT ts2 h2
  simp only [Option.some.injEq,Prod.mk.injEq] at h
  obtain ⟨rfl,rfl,rfl⟩:=h
  obtain ⟨a1,a2,a3,a4⟩:=oK h2
  simp only [trace,he]
  refine ⟨by simp [a1],by simp [← a2],fun h e' he'=> ?_,by simpa [iN] using a4⟩
  rcases List.mem_cons.1 he' with rfl | he'
  ·exact h.1
  ·exact a3 h.2 e' he'
theorem mM:∀ (ck:List SI) (st:St) (es:List j4) (i:Nat) (si:SI) (e:j4),ck[i]? =some si→es[i]? =some e→iN ck st es (i+1)=jO (iN ck st es i) si e
 | [],st,es,i,si,e,h,_=>by simp at h
 | si'::r,st,[],i,si,e,_,h=>by simp at h
 | si'::r,st,e'::es,0,si,e,h1,h2=>by
  simp at h1 h2
  subst h1;subst h2
  cases r <;> cases es <;> simp [iN]
 | si'::r,st,e'::es,i+1,si,e,h1,h2=>by
  simp only [iN]
  exact mM r _ es i si e (by simpa using h1) (by simpa using h2)
theorem rP:∀ {ck:List SI} {st:St} {dw:List CR} {i:Nat} {si:SI} {e:j4},ck[i]? =some si→(trace P ck st dw)[i]? =some e→∃ c1 c2,eX P (iN ck st (trace P ck st dw) i) si c1=some (e,c2)
 | [],st,dw,i,si,e,h,_=>by simp at h
 | si'::r,st,dw,i,si,e,h1,h2=>by
  simp only [trace] at h2 ⊢
  split at h2 <;> first | (simp at h2;done) | skip
  rename_i e' crs' he
  cases i with
  | zero=>
   simp at h1 h2
   subst h1;subst h2
   exact ⟨dw,crs',by simpa [iN] using he⟩
  | succ i=>
   obtain ⟨c1,c2,h⟩:=rP (ck:=r) (st:=jO st si' e') (dw:=crs') (i:=i) (by simpa using h1) (by simpa using h2)
   exact ⟨c1,c2,by simpa [iN] using h⟩
theorem kR (env:List (Nat×SV))(d:Nat)(v:SV)(t:Nat):((d,v)::env).lookup t=if d=t then some v else env.lookup t:=by
 simp only [List.lookup]
 by_cases h:t=d
 ·subst h;simp
 ·rw [show (t == d)=false by simpa using h,if_neg (Ne.symm h)]
theorem Gg {E:Nat→Option SV}{H:Nat→Option Ob}{k:Nat}{own:Bool}{so:SO}{e:j4}(h:cQ E H k own so=some e)(hr:bZ so=true):e.F'=e.F:=by
 cases so <;> simp only [bZ,Bool.false_eq_true] at hr <;> simp only [cQ] at h <;>
  (repeat' (first | (cases h;done) | (injection h with h;subst h;rfl) | split at h))
theorem qU {op:Op}{f:X}{args:List X}(hc:cO P op=some (.call f args)):∃ c fo,op= .call c∧c.callee= .value fo∧cX fo=some f∧Br c.args.toList=some args:=by
 cases op <;> simp only [cO] at hc <;> try (cases hc;done)
 case call c=>
  refine ⟨c,?_⟩
  cases bI:c.callee with
  | value fo=>
   simp only [bI] at hc
   split at hc <;> first | (cases hc;done) | skip
   rename_i f' as' hf ha
   injection hc with hc
   injection hc with hc1 hc2
   subst hc1;subst hc2
   exact ⟨fo,rfl,rfl,hf,ha⟩
  | invoke _ _=>simp [bI] at hc
  | builtin b=>
   exfalso
   simp only [bI] at hc
   repeat' (first | contradiction | (cases hc;done) | split at hc)
 all_goals (repeat' (first | contradiction | (cases hc;done) | (obtain ⟨_,_,hh⟩:=Option.map_eq_some_iff.1 hc;cases hh;done) | split at hc))
theorem rQ {ops:Array Oper}{o:Oper}{st:St}{so:SO}{c1 c2:List CR}{e:j4}(hc:cO P o.op=some so)(h:ek P st so c1=some (e,c2))(aZ:e.ob):
  Sound P o (fun t=>st.env.lookup t) (lk st.hp) st.k e∧(bZ so=true→e.F'=e.F):=by
 have plain:∀ (own:Bool) (c:List CR),cQ (fun t=>st.env.lookup t) (lk st.hp) st.k own so=some e→Sound P o (fun t=>st.env.lookup t) (lk st.hp) st.k e∧(bZ so=true→e.F'=e.F):=fun own c hs=>
  ⟨Am hc hs aZ,Gg hs⟩
 unfold ek at h
 split at h
 ·rename_i f args
  split at h <;> first | (cases h;done) | skip
  ·rename_i fid first cap as F v F' nk crs' h1 h2
   injection h with h
   injection h with h h'
   subst h;subst h'
   obtain ⟨DM,hsub⟩:=aZ
   refine ⟨⟨?_,hsub⟩,fun hr=>by simp [bZ] at hr⟩
   obtain ⟨c,fo,hop,bI,hf,ha⟩:=qU hc
   intro rd p μ M a w K Q hnew hk hS hK
   exact zx hop bI hf ha h1 h2 DM hnew hk hS fun r F'' u aY M' w' ⟨e1,e2⟩ hr qG hE=>by
    subst e1;subst e2
    exact hK u aY M' w' hr qG hE
  ·rename_i fid first cap as pt crs' h1 h2
   split at h <;> first | (cases h;done) | skip
   rename_i v hv
   injection h with h
   injection h with h h'
   subst h;subst h'
   obtain ⟨DM,hsub⟩:=aZ
   refine ⟨⟨?_,hsub⟩,fun hr=>by simp [bZ] at hr⟩
   obtain ⟨c,fo,hop,bI,hf,ha⟩:=qU hc
   intro rd p μ M a w K Q hnew hk hS hK
   exact zx hop bI hf ha h1 h2 DM hnew hk hS fun r F'' u aY M' w' ⟨e1,e2⟩ hr qG hE=>by
    subst e1;subst e2
    exact hK u aY M' w' hr qG hE
  ·rename_i nl as F v F' nk crs' h1 h2
   injection h with h
   injection h with h h'
   subst h;subst h'
   obtain ⟨DM,hnl,hsub⟩:=aZ
   refine ⟨⟨?_,hsub⟩,fun hr=>by simp [bZ] at hr⟩
   obtain ⟨c,fo,hop,bI,hf,ha⟩:=qU hc
   intro rd p μ M a w K Q hnew hk hS hK
   exact wq hop bI hf ha h1 h2 hnl DM hnew hk hS fun r F'' u aY M' w' ⟨e1,e2⟩ hr qG hE=>by
    subst e1;subst e2
    exact hK u aY M' w' hr qG hE
 ·split at h
  ·split at h <;> first | (cases h;done) | skip
   rename_i hs
   injection h with h
   injection h with h h'
   subst h
   exact plain true [] hs
  all_goals
   split at h <;> first | (cases h;done) | skip
   rename_i hs
   injection h with h
   injection h with h h'
   subst h
   exact plain false [] hs
 ·split at h <;> first | (cases h;done) | skip
  rename_i hs
  injection h with h
  injection h with h h'
  subst h
  exact plain false [] hs
def Eb (ops:Array Oper)(draw:Bool):List Nat:=if draw then (Region.before ops).toList else lR ops.size
def BP (P:Program)(N:Nat)(ops:Array Oper)(draw:Bool):Option (List SI×List Nat):=
 match rN P ops ops.toList with
 | some ck=>
  if ((!draw || okB ops (Eb ops draw)) && zu ops (Eb ops draw) && (ck.all fun s=>match s.dst with | some d=>decide (d<N) | none=>true))=true then some (ck,Eb ops draw) else none
 | none=>none
theorem kS {ops:Array Oper}:∀ {l:List Oper} {ck:List SI},rN P ops l=some ck→l.length=ck.length∧∀ (i:Nat) (o:Oper),l[i]? =some o→∃ si,ck[i]? =some si∧nr P ops o=some si
 | [],ck,h=>by simp [rN] at h;subst h;simp
 | o::l,ck,h=>by
  simp only [rN] at h
  split at h <;> first | (cases h;done) | skip
  rename_i s ss h1 h2
  simp at h
  subst h
  obtain ⟨a1,a2⟩:=kS h2
  refine ⟨by simp [a1],fun i o' hi=> ?_⟩
  cases i with
  | zero=>simp at hi;subst hi;exact ⟨s,rfl,h1⟩
  | succ i=>simpa using a2 i o' (by simpa using hi)
theorem uc {n i j:Nat}(hj:j<n)(hij:i<j):fq (lR n) i j=true:=by
 unfold fq lR
 rw [List.getD_eq_getElem?_getD,List.getElem?_map,List.getElem?_range hj]
 simp only [Option.map_some,Option.getD_some]
 rw [Nat.testBit_two_pow_sub_one]
 simpa using hij
end
end
section
mutual
def SV.ok (q:Nat→Bool):SV→Bool
 | .d _=>true
 | .ptr n _=>q n
 | .gs n _=>q n
 | .vp _ _=>true
 | .bs n _ _=>q n
 | .mp n=>q n
 | .it n=>q n
 | .yl n=>q n
 | .fn _ a c=>SV.aI q a && SV.aI q c
 | .agg cs=>SV.aI q cs
 | .cg cs=>SV.aI q cs
 | .any=>true
def SV.aI (q:Nat→Bool):List SV→Bool
 | []=>true
 | c::cs=>SV.ok q c && SV.aI q cs
end
mutual
def SV.aV (ρ:Nat→Nat):SV→SV
 | .d x=> .d x
 | .ptr n o=> .ptr (ρ n) o
 | .gs n l=> .gs (ρ n) l
 | .vp cs i=> .vp cs i
 | .bs n o l=> .bs (ρ n) o l
 | .mp n=> .mp (ρ n)
 | .it n=> .it (ρ n)
 | .yl n=> .yl (ρ n)
 | .fn f a c=> .fn f (SV.bh ρ a) (SV.bh ρ c)
 | .agg cs=> .agg (SV.bh ρ cs)
 | .cg cs=> .cg (SV.bh ρ cs)
 | .any=> .any
def SV.bh (ρ:Nat→Nat):List SV→List SV
 | []=>[]
 | c::cs=>SV.aV ρ c::SV.bh ρ cs
end
mutual
theorem bY.congr {q:Nat→Bool}{μ ν:Nat→Nm}{M:Mem}(h:∀ n,q n=true→ν n=μ n):∀ (s:SV) (v:Value),s.ok q=true→bY μ M s v→bY ν M s v
 | .d x,v,_,hr=>by simpa [bY] using hr
 | .ptr n o,v,hq,hr=>by simp only [bY,SV.ok] at *;rw [h n hq];exact hr
 | .gs n l,v,hq,hr=>by simp only [bY,SV.ok] at *;rw [h n hq];exact hr
 | .vp cs i,v,_,hr=>by simpa [bY] using hr
 | .bs n _ _,v,hq,hr=>by simp only [bY,SV.ok] at *;rw [h n hq];exact hr
 | .mp n,v,hq,hr=>by simp only [bY,SV.ok] at *;rw [h n hq];exact hr
 | .it n,v,hq,hr=>by simp only [bY,SV.ok] at *;rw [h n hq];exact hr
 | .yl n,v,hq,hr=>by simp only [bY,SV.ok] at *;rw [h n hq];exact hr
 | .fn f a c,v,hq,hr=>by
  simp only [bY,SV.ok,Bool.and_eq_true] at*
  obtain ⟨as,cs,e,h1,h2⟩:=hr
  exact ⟨as,cs,e,bR.congr h a _ hq.1 h1,bR.congr h c _ hq.2 h2⟩
 | .agg cs,v,hq,hr=>by
  simp only [bY,SV.ok] at*
  obtain ⟨vs,e,h1⟩:=hr
  exact ⟨vs,e,bR.congr h cs _ hq h1⟩
 | .cg cs,v,hq,hr=>by
  simp only [bY,SV.ok] at*
  obtain ⟨vs,e,h1⟩:=hr
  exact ⟨vs,e,bR.congr h cs _ hq h1⟩
 | .any,_,_,_=>by simp [bY]
theorem bR.congr {q:Nat→Bool}{μ ν:Nat→Nm}{M:Mem}(h:∀ n,q n=true→ν n=μ n):∀ (s:List SV) (v:List Value),SV.aI q s=true→bR μ M s v→bR ν M s v
 | [],v,_,hr=>by simpa [bR] using hr
 | c::cs,v,hq,hr=>by
  simp only [bR,SV.aI,Bool.and_eq_true] at*
  obtain ⟨u,us,e,h1,h2⟩:=hr
  exact ⟨u,us,e,bY.congr h c u hq.1 h1,bR.congr h cs us hq.2 h2⟩
end
mutual
theorem bY.dS {ρ:Nat→Nat}{μ:Nat→Nm}{M:Mem}:∀ (s:SV) (v:Value),bY μ M (s.aV ρ) v↔bY (fun n=>μ (ρ n)) M s v
 | .d x,v=>by simp [bY,SV.aV]
 | .ptr n o,v=>by simp [bY,SV.aV]
 | .gs n l,v=>by simp [bY,SV.aV]
 | .vp cs i,v=>by simp [bY,SV.aV]
 | .bs n _ _,v=>by simp [bY,SV.aV]
 | .mp n,v=>by simp [bY,SV.aV]
 | .it n,v=>by simp [bY,SV.aV]
 | .yl n,v=>by simp [bY,SV.aV]
 | .fn f a c,v=>by
  simp only [bY,SV.aV]
  constructor
  ·rintro ⟨as,cs,e,h1,h2⟩;exact ⟨as,cs,e,(bR.dS a _).1 h1,(bR.dS c _).1 h2⟩
  ·rintro ⟨as,cs,e,h1,h2⟩;exact ⟨as,cs,e,(bR.dS a _).2 h1,(bR.dS c _).2 h2⟩
 | .agg cs,v=>by
  simp only [bY,SV.aV]
  constructor
  ·rintro ⟨vs,e,h1⟩;exact ⟨vs,e,(bR.dS cs _).1 h1⟩
  ·rintro ⟨vs,e,h1⟩;exact ⟨vs,e,(bR.dS cs _).2 h1⟩
 | .cg cs,v=>by
  simp only [bY,SV.aV]
  constructor
  ·rintro ⟨vs,e,h1⟩;exact ⟨vs,e,(bR.dS cs _).1 h1⟩
  ·rintro ⟨vs,e,h1⟩;exact ⟨vs,e,(bR.dS cs _).2 h1⟩
 | .any,_=>by simp [bY,SV.aV]
theorem bR.dS {ρ:Nat→Nat}{μ:Nat→Nm}{M:Mem}:∀ (s:List SV) (v:List Value),bR μ M (SV.bh ρ s) v↔bR (fun n=>μ (ρ n)) M s v
 | [],v=>by simp [bR,SV.bh]
 | c::cs,v=>by
  simp only [bR,SV.bh]
  constructor
  ·rintro ⟨u,us,e,h1,h2⟩;exact ⟨u,us,e,(bY.dS c u).1 h1,(bR.dS cs us).1 h2⟩
  ·rintro ⟨u,us,e,h1,h2⟩;exact ⟨u,us,e,(bY.dS c u).2 h1,(bR.dS cs us).2 h2⟩
end
theorem SV.u9 {q:Nat→Bool}:∀ {cs:List SV},SV.aI q cs=true↔∀ c∈cs,c.ok q=true
 | []=>by simp [SV.aI]
 | c::cs=>by simp [SV.aI,SV.u9 (cs:=cs)]
theorem SV.bt {q:Nat→Bool}(xs:List DV):SV.aI q (xs.map .d)=true:=by
 rw [SV.u9];intro c hc;obtain ⟨x,_,rfl⟩:=List.mem_map.1 hc;rfl
theorem SV.fI {ρ:Nat→Nat}:∀ (xs:List DV),SV.bh ρ (xs.map .d)=xs.map .d
 | []=>rfl
 | x::xs=>by simp [SV.bh,SV.aV,SV.fI xs]
def Ob.ok (q:Nat→Bool):Ob→Bool
 | .box _ cs=>SV.aI q cs
 | .arr _ _ _ cs=>SV.aI q cs
 | .map es _=>es.all fun e=>e.2.1.ok q && e.2.2.ok q
 | .fz=>true
 | .iter mo _ _ _=>match mo with
  | some n=>q n
  | none=>true
 | .ox _ _ cs _ _ _ _ _=>SV.aI q cs
def Ob.aV (ρ:Nat→Nat):Ob→Ob
 | .box t cs=> .box t (SV.bh ρ cs)
 | .arr e sz len cs=> .arr e sz len (SV.bh ρ cs)
 | .map es c=> .map (es.map fun e=>(e.1,e.2.1.aV ρ,e.2.2.aV ρ)) c
 | .fz=> .fz
 | .iter mo a b c=> .iter (mo.map ρ) a b c
 | .ox N ts cs ps as bd st pe=> .ox N ts (SV.bh ρ cs) ps as bd st pe
def Hp.aV (ρ:Nat→Nat)(h:Hp):Hp:=h.map fun x=>(ρ x.1,x.2.aV ρ)
def Hp.ok (q:Nat→Bool)(h:Hp):Bool:=h.all fun x=>q x.1 && x.2.ok q
section
variable {p p':Nat→Prop} {μ ν:Nat→Nm} {M:Mem}
theorem Rp.BQ {q:Nat→Bool}{s:SV}{v:Value}(hq:s.ok q=true)(hp:∀ n,q n=true→p n)(h:bY μ M s v):Rp p μ M s v:=
 fun ν fV=>bY.congr (fun n hn=>fV n (hp n hn)) s v hq h
theorem aM.zy {q:Nat→Bool}{s:List SV}{v:List Value}(hq:SV.aI q s=true)(hp:∀ n,q n=true→p n)(h:bR μ M s v):aM p μ M s v:=
 fun ν fV=>bR.congr (fun n hn=>fV n (hp n hn)) s v hq h
theorem Rp.to {q:Nat→Bool}{ρ:Nat→Nat}{s:SV}{v:Value}(hq:s.ok q=true)(hp:∀ n,q n=true→p n)(fV:∀ n,q n=true→ν n=μ (ρ n))(h:bY μ M (s.aV ρ) v):Rp p ν M s v:=
 Rp.BQ hq hp (bY.congr fV s v hq ((bY.dS s v).1 h))
theorem Rp.back {q:Nat→Bool}{ρ:Nat→Nat}{s:SV}{v:Value}(hq:s.ok q=true)(hp:∀ n,q n=true→p (ρ n))(fV:∀ n,q n=true→μ (ρ n)=ν n)(h:bY ν M s v):Rp p μ M (s.aV ρ) v:=
 fun aY hμ'=>(bY.dS s v).2 (bY.congr (fun n hn=>(hμ' _ (hp n hn)).trans (fV n hn)) s v hq h)
theorem aM.to {q:Nat→Bool}{ρ:Nat→Nat}{s:List SV}{v:List Value}(hq:SV.aI q s=true)(hp:∀ n,q n=true→p n)(fV:∀ n,q n=true→ν n=μ (ρ n))(h:bR μ M (SV.bh ρ s) v):aM p ν M s v:=
 aM.zy hq hp (bR.congr fV s v hq ((bR.dS s v).1 h))
theorem aM.back {q:Nat→Bool}{ρ:Nat→Nat}{s:List SV}{v:List Value}(hq:SV.aI q s=true)(hp:∀ n,q n=true→p (ρ n))(fV:∀ n,q n=true→μ (ρ n)=ν n)(h:bR ν M s v):aM p μ M (SV.bh ρ s) v:=
 fun aY hμ'=>(bR.dS s v).2 (bR.congr (fun n hn=>(hμ' _ (hp n hn)).trans (fV n hn)) s v hq h)
theorem fO.to {q:Nat→Bool}{ρ:Nat→Nat}(hp:∀ n,q n=true→p n)(fV:∀ n,q n=true→ν n=μ (ρ n)):∀ (es:List (Nat×SV×SV)) (cW:List MapEntry),(es.all fun e=>e.2.1.ok q && e.2.2.ok q)=true→
  fO p' μ M (es.map fun e=>(e.1,e.2.1.aV ρ,e.2.2.aV ρ)) cW→fO p ν M es cW
 | [],cW,_,h=>h
 | (b,k,v)::es,cW,hq,h=>by
  simp only [List.all_cons,Bool.and_eq_true] at hq
  obtain ⟨e,es',rfl,h2,h3,h4,h5⟩:=h
  exact ⟨e,es',rfl,h2,Rp.to hq.1.1 hp fV h3.rep,Rp.to hq.1.2 hp fV h4.rep,fO.to hp fV es es' (by simpa using hq.2) h5⟩
theorem fO.back {q:Nat→Bool}{ρ:Nat→Nat}(hp:∀ n,q n=true→p (ρ n))(fV:∀ n,q n=true→μ (ρ n)=ν n):∀ (es:List (Nat×SV×SV)) (cW:List MapEntry),(es.all fun e=>e.2.1.ok q && e.2.2.ok q)=true→
  fO p' ν M es cW→fO p μ M (es.map fun e=>(e.1,e.2.1.aV ρ,e.2.2.aV ρ)) cW
 | [],cW,_,h=>h
 | (b,k,v)::es,cW,hq,h=>by
  simp only [List.all_cons,Bool.and_eq_true] at hq
  obtain ⟨e,es',rfl,h2,h3,h4,h5⟩:=h
  exact ⟨e,es',rfl,h2,Rp.back hq.1.1 hp fV h3.rep,Rp.back hq.1.2 hp fV h4.rep,fO.back hp fV es es' (by simpa using hq.2) h5⟩
theorem bS.to {w:World}{q:Nat→Bool}{ρ:Nat→Nat}{m:Nm}{ob:Ob}(hq:ob.ok q=true)(hp:∀ n,q n=true→p n)(fV:∀ n,q n=true→ν n=μ (ρ n))(h:bS p' μ M w m (ob.aV ρ)):bS p ν M w m ob:=by
 cases ob <;> simp only [bS,Ob.aV,Ob.ok] at h hq ⊢
 case box=>obtain ⟨h0,vs,h1,h2⟩:=h;exact ⟨h0,vs,h1,aM.to hq hp fV h2.tG⟩
 case arr=>
  have hl:∀ (l:List SV),(SV.bh ρ l).length=l.length:=fun l=>by induction l <;> simp_all [SV.bh]
  rcases h with ⟨a1,a2,a3⟩ | ⟨h0,vs,h1,h2,h3,h4,h5,h6⟩
  ·exact .inl ⟨a1,a2,List.eq_nil_of_length_eq_zero (by rw [← hl,a3];rfl)⟩
  exact .inr ⟨h0,vs,h1,by rw [← h2,hl],h3,h4,h5,aM.to hq hp fV h6.tG⟩
 case map=>obtain ⟨h0,cW,h1,h2⟩:=h;exact ⟨h0,cW,h1,fO.to hp fV _ _ hq h2⟩
 case fz=>exact h
 case iter mo a b c=>
  cases mo with
  | none=>exact ⟨h.1,fun n hn=>(by cases hn),by simpa using h.2.2⟩
  | some n=>
   refine ⟨h.1,fun n' hn=>by injection hn with hn;subst hn;exact hp n hq,?_⟩
   simp only [Option.map_some] at h ⊢
   rw [fV n hq];exact h.2.2
 case ox=>obtain ⟨h0,r,h1,h2,h3⟩:=h;exact ⟨h0,r,h1,aM.to hq hp fV h2.tG,h3⟩
theorem bS.back {w:World}{q:Nat→Bool}{ρ:Nat→Nat}{m:Nm}{ob:Ob}(hq:ob.ok q=true)(hp:∀ n,q n=true→p (ρ n))(fV:∀ n,q n=true→μ (ρ n)=ν n)(h:bS p' ν M w m ob):bS p μ M w m (ob.aV ρ):=by
 cases ob <;> simp only [bS,Ob.aV,Ob.ok] at h hq ⊢
 case box=>obtain ⟨h0,vs,h1,h2⟩:=h;exact ⟨h0,vs,h1,aM.back hq hp fV h2.tG⟩
 case arr=>
  have hl:∀ (l:List SV),(SV.bh ρ l).length=l.length:=fun l=>by induction l <;> simp_all [SV.bh]
  rcases h with ⟨a1,a2,a3⟩ | ⟨h0,vs,h1,h2,h3,h4,h5,h6⟩
  ·exact .inl ⟨a1,a2,by rw [a3];rfl⟩
  exact .inr ⟨h0,vs,h1,by rw [hl,h2],h3,h4,h5,aM.back hq hp fV h6.tG⟩
 case map=>obtain ⟨h0,cW,h1,h2⟩:=h;exact ⟨h0,cW,h1,fO.back hp fV _ _ hq h2⟩
 case fz=>exact h
 case iter mo a b c=>
  cases mo with
  | none=>exact ⟨h.1,fun n hn=>(by cases hn),by simpa using h.2.2⟩
  | some n=>
   refine ⟨h.1,fun n' hn=>by simp at hn;subst hn;exact hp n hq,?_⟩
   simp only [Option.map_some] at h ⊢
   rw [fV n hq];exact h.2.2
 case ox=>obtain ⟨h0,r,h1,h2,h3⟩:=h;exact ⟨h0,r,h1,aM.back hq hp fV h2.tG,h3⟩
end
theorem l7:∀ {h:Hp} {n:Nat} {ob:Ob},lk h n=some ob→(n,ob)∈h
 | [],n,ob,h=>by simp [bA] at h
 | (m,o)::h,n,ob,hh=>by
  rw [ag] at hh
  split at hh
  ·rename_i e
   injection hh with hh
   subst hh;subst e
   simp
  ·exact List.mem_cons_of_mem _ (l7 hh)
theorem Hp.fJ {q:Nat→Bool}{h:Hp}(hq:h.ok q=true){n:Nat}{ob:Ob}(hl:lk h n=some ob):q n=true∧ob.ok q=true:=by
 have:=List.all_eq_true.1 hq _ (l7 hl)
 simpa using this
theorem BR {ρ:Nat→Nat}{h:Hp}{q:Nat→Bool}(hq:h.ok q=true)(hinj:∀ n m,q n=true→q m=true→ρ n=ρ m→n=m){n:Nat}(hn:q n=true):lk (h.aV ρ) (ρ n)=(lk h n).map (Ob.aV ρ):=by
 induction h with
 | nil=>rfl
 | cons x h ih=>
  obtain ⟨m,o⟩:=x
  simp only [Hp.ok,List.all_cons,Bool.and_eq_true] at hq
  simp only [Hp.aV,List.map_cons]
  rw [ag,ag]
  by_cases e:n=m
  ·subst e;simp
  ·rw [if_neg e,if_neg (fun h=>e (hinj n m hn hq.1.1 h))]
   exact ih (by simpa [Hp.ok] using hq.2)
theorem wv {ρ:Nat→Nat}{h:Hp}{m:Nat}{ob:Ob}(hl:lk (h.aV ρ) m=some ob):∃ n iY,(n,iY)∈h∧m=ρ n∧ob=iY.aV ρ:=by
 obtain ⟨⟨n,iY⟩,h1,h2⟩:=List.mem_map.1 (l7 hl)
 simp at h2
 exact ⟨n,iY,h1,h2.1.symm,h2.2.symm⟩
def SB (P:Program)(f:FuncId)(args:List SV)(F:Hp)(k nk:Nat)(Q:SV→Hp→Prop):Prop:=
 iL P f=true∧SV.aI (fun n=>decide (n<k)) args=true∧F.ok (fun n=>decide (n<k))=true∧
 ∀ (μ:Nat→Nm) (M:Mem) (w:World) (vals:Array Value),aM (· <k) μ M args vals.toList→bD (· <k) μ M (lk F) w→
  Calls P f vals w fun e w'=>∃ r F' aY M' u,e= .returned u∧Q r F'∧r.ok (fun n=>decide (n<k+nk))=true∧F'.ok (fun n=>decide (n<k+nk))=true∧bY aY M' r u∧bD (· <k+nk) aY M' (lk F') w'∧
   Ev (lk F) (fun n=>k≤n∧n<k+nk) μ M w (lk F') aY M' w'
theorem Ec {args:List SV}{F:Hp}{k nk:Nat}{Q:SV→Hp→Prop}(hao:SV.aI (fun n=>decide (n<k)) args=true)(BS:F.ok (fun n=>decide (n<k))=true)(ρ:Nat→Nat)(k':Nat)(hinj:∀ n m,n<k→m<k→ρ n=ρ m→n=m)
    (hnew:∀ i,i<nk→ρ (k+i)=k'+i) {p:Nat→Prop} {μ:Nat→Nm} {M:Mem} {w:World} {vals:Array Value} (hp:∀ n,(k'≤n∧n<k'+nk)→ ¬ p n) (hpk:∀ n,n<k→p (ρ n)) (hr:aM p μ M (SV.bh ρ args) vals.toList) (hS:bD p μ M (lk (F.aV ρ)) w):
    aM (· <k) (fun n=>μ (ρ n)) M args vals.toList∧bD (· <k) (fun n=>μ (ρ n)) M (lk F) w∧∀ e w',
      (∃ r F' aY M' u,e=Ending.returned u∧Q r F'∧r.ok (fun n=>decide (n<k+nk))=true∧F'.ok (fun n=>decide (n<k+nk))=true∧bY aY M' r u∧bD (· <k+nk) aY M' (lk F') w'∧
        Ev (lk F) (fun n=>k≤n∧n<k+nk) (fun n=>μ (ρ n)) M w (lk F') aY M' w')→
      ∃ r F' aY M' u,e=Ending.returned u∧(∃ r0 F0,Q r0 F0∧r=r0.aV ρ∧F'=F0.aV ρ)∧Rp (fun n=>p n∨(k'≤n∧n<k'+nk)) aY M' r u∧bD (fun n=>p n∨(k'≤n∧n<k'+nk)) aY M' (lk F') w'∧
        Ev (lk (F.aV ρ)) (fun n=>k'≤n∧n<k'+nk) μ M w (lk F') aY M' w':=by
  have hq1:∀ n,decide (n<k)=true→n<k:=fun n h=>by simpa using h
  have hlt:∀ n m,n<k→k≤m→m<k+nk→ρ n≠ρ m:=fun n m hn hm hm' e=>by
    have h1:=hnew (m - k) (by omega)
    rw [show k+(m - k)=m by omega] at h1
    exact hp (ρ n) (by rw [e,h1];omega) (hpk n hn)
  have hin:∀ n m,n<k+nk→m<k+nk→ρ n=ρ m→n=m:=fun n m hn hm e=>by
    by_cases h1:n<k <;> by_cases h2:m<k
    · exact hinj n m h1 h2 e
    · exact absurd e (hlt n m h1 (by omega) hm)
    · exact absurd e.symm (hlt m n h2 (by omega) hn)
    · have a1:=hnew (n - k) (by omega)
      have a2:=hnew (m - k) (by omega)
      rw [show k+(n - k)=n by omega] at a1
      rw [show k+(m - k)=m by omega] at a2
      omega
  have hr':aM (· <k) (fun n=>μ (ρ n)) M args vals.toList:=aM.to hao hq1 (fun n _=>rfl) hr.tG
  have hF:∀ n,n<k→lk (F.aV ρ) (ρ n)=(lk F n).map (Ob.aV ρ):=fun n hn=>BR BS (fun a b ha hb=>hinj a b (hq1 a ha) (hq1 b hb)) (by simpa using hn)
  have hFlt:∀ n,lk F n≠none→n<k:=fun n hn=>by
    obtain ⟨ob,aZ⟩:=Option.ne_none_iff_exists'.1 hn
    exact hq1 n (Hp.fJ BS aZ).1
  have qG:bD (· <k) (fun n=>μ (ρ n)) M (lk F) w:=by
    refine ⟨hS.mem,fun n ob hn=> ?_,fun n m hn hm ln lm e=> ?_⟩
    · obtain ⟨q1,q2⟩:=Hp.fJ BS hn
      have hnk:=hq1 n q1
      have:=hF n hnk
      rw [hn] at this
      obtain ⟨_,b1,b2⟩:=hS.obs (ρ n) (ob.aV ρ) this
      exact ⟨hnk,b1.to q2 hq1 (fun n _=>rfl),b2⟩
    · have h1:=hFlt n hn
      have h2:=hFlt m hm
      refine hinj n m h1 h2 (hS.inj (ρ n) (ρ m) ?_ ?_ ln lm e)
      · rw [hF n h1];simpa using hn
      · rw [hF m h2];simpa using hm
  refine ⟨hr',qG,?_⟩
  rintro e w' ⟨r,F',aY,M',u,rfl,hQ,hro,hFo',hru,hS2,hE⟩
  have hq2:∀ n,decide (n<k+nk)=true→n<k+nk:=fun n h=>by simpa using h
  -- the caller's reading of the new names
  let μx:Nat→Nm:=fun m=>if k'≤m∧m<k'+nk then aY (k+(m - k')) else μ m
  have hx:∀ n,n<k+nk→μx (ρ n)=aY n:=fun n hn=>by
    by_cases h1:n<k
    · have: ¬ (k'≤ρ n∧ρ n<k'+nk):=fun hh=>hp (ρ n) hh (hpk n h1)
      simp only [μx,this,if_false]
      exact (hE.old n (by omega)).symm
    · have a1:=hnew (n - k) (by omega)
      rw [show k+(n - k)=n by omega] at a1
      simp only [μx]
      rw [a1,if_pos (by omega)]
      congr 1
      omega
  have hpx:∀ n,n<k+nk→(p (ρ n)∨(k'≤ρ n∧ρ n<k'+nk)):=fun n hn=>by
    by_cases h1:n<k
    · exact .inl (hpk n h1)
    · have a1:=hnew (n - k) (by omega)
      rw [show k+(n - k)=n by omega] at a1
      exact .inr (by omega)
  have hF2:∀ n,n<k+nk→lk (F'.aV ρ) (ρ n)=(lk F' n).map (Ob.aV ρ):=fun n hn=>BR hFo' (fun a b ha hb=>hin a b (hq2 a ha) (hq2 b hb)) (by simpa using hn)
  have hlkF':∀ m ob,lk (F'.aV ρ) m=some ob→∃ n iY,n<k+nk∧m=ρ n∧ob=iY.aV ρ∧lk F' n=some iY∧iY.ok (fun n=>decide (n<k+nk))=true:=by
    intro m ob hm
    obtain ⟨n,iY,h1,rfl,rfl⟩:=wv hm
    have hn:n<k+nk:=by
      have:=List.all_eq_true.1 hFo' _ h1
      simp at this
      exact this.1
    rw [hF2 n hn] at hm
    obtain ⟨DT,h2,h3⟩:=Option.map_eq_some_iff.1 hm
    exact ⟨n,DT,hn,rfl,h3.symm,h2,(Hp.fJ hFo' h2).2⟩
  refine ⟨r.aV ρ,F'.aV ρ,μx,M',u,rfl,⟨r,F',hQ,rfl,rfl⟩,Rp.back hro (fun n hn=>hpx n (hq2 n hn)) (fun n hn=>hx n (hq2 n hn)) hru,⟨hS2.mem,fun m ob hm=> ?_,fun a b ha hb la lb e=> ?_⟩,⟨fun m hm=> ?_,hE.mem,fun b hb hf=> ?_,hE.size,fun m hm=> ?_,hE.os,hE.tape,hE.output⟩⟩
  · obtain ⟨n,iY,hn,rfl,rfl,hl,hok⟩:=hlkF' m ob hm
    obtain ⟨_,b1,b2⟩:=hS2.obs n iY hl
    rw [hx n hn]
    exact ⟨hpx n hn,b1.back hok (fun n hn=>hpx n (hq2 n hn)) (fun n hn=>hx n (hq2 n hn)),b2⟩
  · obtain ⟨oa,hoa⟩:=Option.ne_none_iff_exists'.1 ha
    obtain ⟨ob,aZ⟩:=Option.ne_none_iff_exists'.1 hb
    obtain ⟨n,_,hn,rfl,_,hl,_⟩:=hlkF' a oa hoa
    obtain ⟨m,_,hm,rfl,_,hl',_⟩:=hlkF' b ob aZ
    rw [hx n hn] at e la
    rw [hx m hm] at e lb
    rw [hS2.inj n m (by rw [hl];simp) (by rw [hl'];simp) la lb e]
  · simp only [μx]
    rw [if_neg hm]
  · refine hE.frame b hb fun n hn=> ?_
    have h1:=hFlt n hn
    exact hf (ρ n) (by rw [hF n h1];simpa using hn)
  · obtain ⟨ob,aZ⟩:=Option.ne_none_iff_exists'.1 hm
    obtain ⟨n,_,hn,rfl,_,hl,_⟩:=hlkF' m ob aZ
    rw [hx n hn]
    rcases hE.names n (by rw [hl];simp) with ⟨⟨h1,h2⟩,h3⟩ | ⟨h1,h2⟩
    · have a1:=hnew (n - k) (by omega)
      rw [show k+(n - k)=n by omega] at a1
      refine .inl ⟨by omega,fun ln=> ?_⟩
      rcases h3 ln with h3 | ⟨q,hq,lq,e⟩
      · exact .inl h3
      · have hqk:=hFlt q hq
        exact .inr ⟨ρ q,by rw [hF q hqk];simpa using hq,lq,e⟩
    · have h3:=hFlt n h2
      refine .inr ⟨fun hh=>hp (ρ n) hh (hpk n h3),by rw [hF n h3];simpa using h2⟩
theorem SB.at {P:Program}{f:FuncId}{args:List SV}{F:Hp}{k nk:Nat}{Q:SV→Hp→Prop}(h:SB P f args F k nk Q)(ρ:Nat→Nat)(k':Nat)(hinj:∀ n m,n<k→m<k→ρ n=ρ m→n=m)
  (hargs:∀ n,n<k→∀ (p:Nat→Prop) μ M w vals,aM p μ M (SV.bh ρ args) vals→bD p μ M (lk (F.aV ρ)) w→p (ρ n)) (hnew:∀ i,i<nk→ρ (k+i)=k'+i):
  SC P f (SV.bh ρ args) (F.aV ρ) k' nk fun r F'=>∃ r0 F0,Q r0 F0∧r=r0.aV ρ∧F'=F0.aV ρ:=by
 refine ⟨h.1,fun p μ M w vals hp hr hS=> ?_⟩
 obtain ⟨h1,h2,h3⟩:=Ec (Q:=Q) h.2.1 h.2.2.1 ρ k' hinj hnew hp (fun n hn=>hargs n hn p μ M w _ hr hS) hr hS
 exact (h.2.2.2 _ M w vals h1 h2).mono h3
def DN (P:Program)(nl:Nat)(args:List SV)(F:Hp)(k nk:Nat)(Q:SV→Hp→Prop):Prop:=
 SV.aI (fun n=>decide (n<k)) args=true∧F.ok (fun n=>decide (n<k))=true∧
 ∀ (μ:Nat→Nm) (M:Mem) (w:World) (vals:Array Value),aM (· <k) μ M args vals.toList→bD (· <k) μ M (lk F) w→
  BO P (μ nl).blk vals w fun e w'=>∃ r F' aY M' u,e= .returned u∧Q r F'∧r.ok (fun n=>decide (n<k+nk))=true∧F'.ok (fun n=>decide (n<k+nk))=true∧bY aY M' r u∧bD (· <k+nk) aY M' (lk F') w'∧
   Ev (lk F) (fun n=>k≤n∧n<k+nk) μ M w (lk F') aY M' w'
end
end Go.Sl
