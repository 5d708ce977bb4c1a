/-
 A region, in whatever order: what each operation needs is there when it comes up.
-/
import Derived.RangeFuncRecord
import Derived.Test.YtaelhkkjgfobhaaGreatU2
set_option linter.unusedSimpArgs false
set_option linter.unusedSectionVars false
set_option linter.unusedVariables false
namespace Go.Sl
open Go.RowKit
section
def pick {α:Type}(A:Nat->Bool)(f:Nat->α)(n:Nat)(c:α):α:=match n with
 | 0=>c
 | n+1=>if A n then f n else pick A f n c
theorem fU {α:Type}{A B:Nat->Bool}{f:Nat->α}{c:α}:∀ {n:Nat},(∀ i,i<n->A i=B i)->pick A f n c=pick B f n c
 | 0,_=>rfl
 | n+1,h=>by simp only [pick,h n (by omega),fU (n:=n) λ i hi=>h i (by omega)]
theorem su {α:Type}{A:Nat->Bool}{f:Nat->α}{c:α}:∀ {n:Nat},(∀ i,i<n->A i=false)->pick A f n c=c
 | 0,_=>rfl
 | n+1,h=>by simp [pick,h n (by omega),su (n:=n) λ i hi=>h i (by omega)]
theorem uD {α:Type}{A B:Nat->Bool}{f:Nat->α}{c:α}{i:Nat}:∀ {n:Nat},i<n->(∀ j,j<n->j≠i->B j=A j)->(∀ j,j<n->i<j->A j=false)->B i=true->pick B f n c=f i
 | 0,h,_,_,_=>by omega
 | n +1,h,h1,h2,h3=>by
  by_cases hn:n=i
  .subst hn;simp [pick,h3]
  .have hA:A n=false:=h2 n (by omega) (by omega)
   have hB:B n=false:=(h1 n (by omega) hn).trans hA;simp only [pick,hB,Bool.false_eq_true,if_false];exact uD (by omega) (λ j hj=>h1 j (by omega)) (λ j hj=>h2 j (by omega)) h3
theorem sx {α:Type}{A:Nat->Bool}{f:Nat->α}{c:α}{i:Nat}:∀ {n:Nat},i<=n->pick (λ j=>A j && decide (j<i)) f n c=pick A f i c
 | 0,h=>by
  have:i=0:=by omega
  subst this;rfl
 | n +1,h=>by
  by_cases hn:i=n+1
  .subst hn
   exact fU λ j hj=>by simp [hj]
  .have:decide (n<i)=false:=by simp;omega
   simp only [pick,this,Bool.and_false,Bool.false_eq_true,if_false];exact sx (by omega)
def gI (bs:List Nat)(i j:Nat):Bool:=(bs.getD j 0).testBit i
def zb (n:Nat)(f:Nat->Nat->Bool):Bool:=(List.range n).all λ i=>(List.range n).all λ j=>f i j
theorem oZ {n:Nat}{f:Nat->Nat->Bool}(h:zb n f=true){i j:Nat}(hi:i<n)(hj:j<n):f i j=true:=by
 have:=List.all_eq_true.1 h i (List.mem_range.2 hi);exact List.all_eq_true.1 this j (List.mem_range.2 hj)
def okB (ops:Array Oper)(bs:List Nat):Bool:=
 zb ops.size (λ j i=> !gI bs i j || (i<j && ((ops[j]?).map λ o=>o.after.any λ e=>Region.binds .any e && (e.on == i || (e.on<j && gI bs i e.on))).getD false)) &&
 (List.range ops.size).all λ j=>((ops[j]?).map λ o=>o.after.all λ e=> !Region.binds .any e || e.on<j).getD false
def gz (ops:Array Oper)(i:Nat):Option Tmp:=(ops[i]?).bind (·.dst)
def looks (ops:Array Oper)(i:Nat):List Tmp:=((ops[i]?).map λ o=>o.looksAt ops).getD []
def BJ (ops:Array Oper)(bs:List Nat):Bool:=
 zb ops.size λ i j=>i == j || match gz ops i with
  | none=>true
  | some d=>gz ops j != some d && (!(looks ops j).contains d || gI bs i j || gI bs j i)
structure RG (P:Program)(ops:Array Oper)(bs:List Nat)(N:Nat)(E0:Nat->Option SV)(H0:Nat->Option Ob)(k0:Nat)(cU:Nat->mG)(ro:Nat->Bool)(kk:Nat->Nat):Prop where
 slots:BJ ops bs=true
 Pk:∀ i d,gz ops i=some d->d<N
 N2:kk 0=k0
 N3:∀ i,kk (i+1)=kk i+(cU i).nk
 Mt:∀ i j jg,i<ops.size->j<ops.size->i≠j->ro i=false->((lk (cU i).F jg).isSome || (lk (cU i).F' jg).isSome)=true->((lk (cU j).F jg).isSome || (lk (cU j).F' jg).isSome)=true->gI bs i j=true\/gI bs j i=true
 Pm:∀ i,ro i=true->(cU i).F'=(cU i).F
section
variable {P:Program} {ops:Array Oper} {bs:List Nat} {N:Nat} {E0:Nat->Option SV} {H0:Nat->Option Ob} {k0:Nat} {cU:Nat->mG} {ro:Nat->Bool} {kk:Nat->Nat}
def iA (ops:Array Oper)(E0:Nat->Option SV)(cU:Nat->mG)(D:Nat->Bool)(n t:Nat):Option SV:=pick (λ i=>D i && gz ops i == some t) (λ i=>some (cU i).v) n (E0 t)
def jj (cU:Nat->mG)(i jg:Nat):Bool:=(lk (cU i).F jg).isSome || (lk (cU i).F' jg).isSome
def fE (H0:Nat->Option Ob)(cU:Nat->mG)(ro:Nat->Bool)(D:Nat->Bool)(n jg:Nat):Option Ob:=pick (λ i=>D i && (!ro i && jj cU i jg)) (λ i=>lk (cU i).F' jg) n (H0 jg)
def mP (want:Bool):SV->Bool
 | .d (.bool b)=>b != want
 | .eu []=>true
 | _=>false
def sy (P:Program)(ops:Array Oper)(E:Nat->Option SV)(H:Nat->Option Ob)(k:Nat)(o:Oper)(e:mG):Prop:=
 (∃ j want t s,o.guard=some (j,want)/\gz ops j=some t/\E t=some s/\mP want s=true/\e.v= .eu []/\e.F=[]/\e.F'=[]/\e.nk=0)\/
 ((o.guard=none\/∃ j want t,o.guard=some (j,want)/\gz ops j=some t/\E t=some (.d (.bool want)))/\Sound P o E H k e)
theorem OT.facts {o:Oper}{E E':Nat->Option SV}{F F':Hp}{new:Nat->Prop}{v:SV}(h:OT P o E F new v F')(hE:∀ t,Operand.tmp t∈o.op.operands->∀ s,E t=some s->E' t=some s):OT P o E' F new v F':=by
 intro rd p μ M a w K Q hnew hk hS hK;exact h rd p μ M a w K Q hnew ⟨λ t ht s hs=>hk.1 t ht s (hE t ht s hs),hk.2⟩ hS hK
theorem CD {i:Nat}{o:Oper}{t:Nat}(ho:ops[i]? =some o)(ht:Operand.tmp t∈o.op.operands):t∈looks ops i:=by
 simp only [looks,ho,Option.map_some,Option.getD_some,Oper.looksAt,List.mem_append];exact .inl (List.mem_filterMap.2 ⟨.tmp t,by simpa using ht,rfl⟩)
theorem tv {i j:Nat}{o:Oper}{t:Nat}{want:Bool}(ho:ops[i]? =some o)(hg:o.guard=some (j,want))(ht:gz ops j=some t):t∈looks ops i:=by
 simp only [looks,ho,Option.map_some,Option.getD_some,Oper.looksAt,List.mem_append,hg];refine .inr ?_;unfold gz at ht;simp [ht]
def uE (ops:Array Oper)(D:Nat->Bool):Prop:=∀ j o,D j=true->ops[j]? =some o->∀ e∈o.after,Region.binds .any e=true->D e.on=true
def BK (ops:Array Oper)(D:Nat->Bool)(i:Nat):Prop:=∀ o,ops[i]? =some o->∀ e∈o.after,Region.binds .any e=true->D e.on=true
theorem AG (h:okB ops bs=true){i j:Nat}(hj:j<ops.size)(hi:i<ops.size)(ho:gI bs i j=true):i<j/\∃ o,ops[j]? =some o/\∃ e∈o.after,Region.binds .any e=true/\(e.on=i\/(e.on<j/\gI bs i e.on=true)):=by
 simp only [okB,Bool.and_eq_true] at h;have:=oZ h.1 hj hi;simp only [ho,Bool.not_true,Bool.false_or,Bool.and_eq_true,decide_eq_true_eq] at this;refine ⟨this.1,ops[j],Array.getElem?_eq_getElem hj,?_⟩;have h2:=this.2;rw [Array.getElem?_eq_getElem hj] at h2;simp only [Option.map_some,Option.getD_some] at h2;obtain ⟨e,he,hb⟩:=Array.any_eq_true'.1 h2;simp only [Bool.and_eq_true,Bool.or_eq_true,beq_iff_eq,decide_eq_true_eq] at hb;exact ⟨e,he,hb.1,hb.2⟩
theorem sD (h:okB ops bs=true){D:Nat->Bool}(hc:uE ops D):∀ {j i:Nat},j<ops.size->i<ops.size->BK ops D j->gI bs i j=true->D i=true:=by
 intro j
 induction j using Nat.strongRecOn with
 | _ j ih=>
  intro i hj hi hp ho;obtain ⟨_,o,ho',e,he,hb,h2⟩:=AG h hj hi ho;have hD:=hp o ho' e he hb;rcases h2 with rfl | ⟨hlt,h3⟩
  .exact hD
  .exact ih e.on hlt (by omega) hi (λ o' ho''=>hc e.on o' hD ho'') h3
theorem AH (h:okB ops bs=true){D:Nat->Bool}(hc:uE ops D){i j:Nat}(hj:j<ops.size)(hi:i<ops.size)(hD:D j=true)(ho:gI bs i j=true):D i=true:=
 sD h hc hj hi (λ o' ho'=>hc j o' hD ho') ho
theorem N4 (h:okB ops bs=true){D:Nat->Bool}(hc:uE ops D){i j:Nat}(hi:i<ops.size)(hj:j<ops.size)(hn:D i=false)(hp:BK ops D i)(ho:gI bs i j=true\/gI bs j i=true):D j=decide (j<i):=by
 rcases ho with ho | ho
 .have hlt:=(AG h hj hi ho).1
  cases hD:D j with
  | false=>simp;omega
  | true=>
   have:=AH h hc hj hi hD ho;rw [this] at hn;cases hn
 .have hlt:=(AG h hi hj ho).1
  rw [sD h hc hi hj hp ho];simp [hlt]
variable (hR:RG P ops bs N E0 H0 k0 cU ro kk)
include hR
theorem RG.HU {D:Nat->Bool}{i t:Nat}(hi:i<ops.size)(hn:D i=false)(hT:∀ j,j<ops.size->j≠i->(gI bs i j=true\/gI bs j i=true)->D j=decide (j<i))(hl:t∈looks ops i):
    iA ops E0 cU D ops.size t=iA ops E0 cU (λ _=>true) i t:=by
  unfold iA;rw [<- sx (A:=λ j=>true && gz ops j == some t) (n:=ops.size) (by omega)];refine fU λ j hj=> ?_
  by_cases hd:gz ops j=some t
  . by_cases hji:j=i
    . subst hji;simp [hn,hd]
    . have hs:=oZ hR.slots hj hi
      simp only [beq_iff_eq,hji,Bool.or_eq_true,false_or,hd,Bool.and_eq_true,Bool.not_eq_true'] at hs;have hcon:(looks ops i).contains t=true:=by simpa using hl
      rw [hcon] at hs;have ho:gI bs i j=true\/gI bs j i=true:=by
        rcases hs.2 with (h | h) | h
        . cases h
        . exact .inr h
        . exact .inl h
      simp [hd,hT j hj hji ho]
  . simp [beq_eq_false_iff_ne.2 hd]
theorem RG.HV {D:Nat->Bool}{i jg:Nat}(hi:i<ops.size)(hn:D i=false)(hT:∀ j,j<ops.size->j≠i->(gI bs i j=true\/gI bs j i=true)->D j=decide (j<i))(ht:jj cU i jg=true):
    fE H0 cU ro D ops.size jg=fE H0 cU ro (λ _=>true) i jg:=by
  unfold fE;rw [<- sx (A:=λ j=>true && (!ro j && jj cU j jg)) (n:=ops.size) (by omega)];refine fU λ j hj=> ?_
  by_cases hd:ro j=false/\jj cU j jg=true
  . by_cases hji:j=i
    . subst hji;simp [hn]
    . have ho:=hR.Mt j i jg hj hi hji hd.1 hd.2 ht
      simp [hd.1,hd.2,hT j hj (by assumption) ho.symm]
  . have:(!ro j && jj cU j jg)=false:=by
      cases h1:ro j <;> cases h2:jj cU j jg <;> simp_all
    simp [this]
theorem RG.zc {D:Nat->Bool}{i t:Nat}(hi:i<ops.size)(hn:D i=false):
  iA ops E0 cU (λ j=>D j || j == i) ops.size t=if gz ops i=some t then some (cU i).v else iA ops E0 cU D ops.size t:=by
 by_cases hd:gz ops i=some t
 .rw [if_pos hd]
  unfold iA;refine uD (A:=λ j=>D j && gz ops j == some t) hi (λ j hj hji=>by simp [beq_eq_false_iff_ne.2 hji]) (λ j hj hlt=> ?_) (by simp [hd]);have hs:=oZ hR.slots hi hj;simp only [beq_iff_eq,Bool.or_eq_true,show ¬ i=j by omega,false_or,hd,Bool.and_eq_true,bne_iff_ne,ne_eq] at hs;simp [hs.1]
 .rw [if_neg hd]
  unfold iA;refine fU λ j hj=> ?_
  by_cases hji:j=i
  .subst hji;simp [hd,hn]
  .simp [beq_eq_false_iff_ne.2 hji]
theorem RG.ze {D:Nat->Bool}{i:Nat}(hi:i<ops.size)(hn:D i=false)(hT:∀ j,j<ops.size->j≠i->(gI bs i j=true\/gI bs j i=true)->D j=decide (j<i))(hr:ro i=false):
  fE H0 cU ro (λ j=>D j || j == i) ops.size=Ay (fE H0 cU ro D ops.size) (lk (cU i).F) (lk (cU i).F'):=by
 funext jg
 by_cases ht:jj cU i jg=true
 .rw [eM (by
   simp only [jj,Bool.or_eq_true,Option.isSome_iff_ne_none] at ht;exact ht)]
  unfold fE;refine uD (A:=λ j=>D j && (!ro j && jj cU j jg)) hi (λ j hj hji=>by simp [beq_eq_false_iff_ne.2 hji]) (λ j hj hlt=> ?_) (by simp [hr,ht])
  by_cases hd:ro j=false/\jj cU j jg=true
  .have ho:=hR.Mt j i jg hj hi (by omega) hd.1 hd.2 ht
   have:=hT j hj (by omega) ho.symm;simp [this];omega
  .have:(!ro j && jj cU j jg)=false:=by
    cases h1:ro j <;> cases h2:jj cU j jg <;> simp_all
   simp [this]
 .have hF:lk (cU i).F jg=none/\lk (cU i).F' jg=none:=by
   simp only [jj,Bool.or_eq_true,Option.isSome_iff_ne_none,not_or,Classical.not_not] at ht;exact ht
  rw [dz hF.1 hF.2];unfold fE;refine fU λ j hj=> ?_
  by_cases hji:j=i
  .subst hji;simp [hn,ht]
  .simp [beq_eq_false_iff_ne.2 hji]
theorem RG.wF {D:Nat->Bool}{i:Nat}(hr:ro i=true):fE H0 cU ro (λ j=>D j || j == i) ops.size=fE H0 cU ro D ops.size:=by
 funext jg
 unfold fE;refine fU λ j hj=> ?_
 by_cases hji:j=i
 .subst hji;simp [hr]
 .simp [beq_eq_false_iff_ne.2 hji]
theorem RG.mono:∀ {i j:Nat},i<=j->kk i<=kk j:=by
 intro i j h
 induction j with
 | zero=>
   have:i=0:=by omega
   subst this;exact Nat.le_refl _
 | succ j ih=>
  by_cases hij:i=j+1
  .subst hij;exact Nat.le_refl _
  .have:=ih (by omega);rw [hR.N3];omega
omit hR
def tO (ops:Array Oper)(cU:Nat->mG)(kk:Nat->Nat)(D:Nat->Bool)(n:Nat):Prop:=∃ j,j<ops.size/\D j=true/\kk j<=n/\n<kk j+(cU j).nk
def pD (ops:Array Oper)(k0:Nat)(cU:Nat->mG)(kk:Nat->Nat)(D:Nat->Bool)(n:Nat):Prop:=n<k0\/tO ops cU kk D n
structure Inv (ops:Array Oper)(N:Nat)(E0:Nat->Option SV)(H0:Nat->Option Ob)(k0:Nat)(cU:Nat->mG)(ro:Nat->Bool)(kk:Nat->Nat)(cR:Nat->Nm)(M0:Mem)(w0:World)(df:List Deferred)(D:Nat->Bool)(a:Act)(w:World):Prop where
 ex:∃ μ M,(∀ t s,iA ops E0 cU D ops.size t=some s->Rp (pD ops k0 cU kk D) μ M s (a.tmps.getD t undef))/\bQ (pD ops k0 cU kk D) μ M (fE H0 cU ro D ops.size) w/\
  Ev H0 (tO ops cU kk D) cR M0 w0 (fE H0 cU ro D ops.size) μ M w
 df:a.defers=df
 sz:a.tmps.size=N
theorem uF {a:Act}{d:Nat}{v:Value}(h:d<a.tmps.size):(a.put (some d) v).tmps.getD d undef=v:=by
 simp [Act.put,h]
theorem o6 {a:Act}{d t:Nat}{v:Value}(h:t≠d):(a.put (some d) v).tmps.getD t undef=a.tmps.getD t undef:=by
 simp [Act.put,Array.getElem?_setIfInBounds_ne (Ne.symm h)]
theorem oy {a:Act}{d:Option Nat}{v:Value}:(a.put d v).tmps.size=a.tmps.size:=by cases d <;> simp [Act.put]
theorem lS {a:Act}{d:Option Nat}{v:Value}:(a.put d v).defers=a.defers:=by cases d <;> rfl
theorem qy {a:Act}{j t:Nat}(hd:gz ops j=some t)(h:a.tmps.getD t undef=undef):yielded ops a.tmps j=none:=by
 unfold yielded;unfold gz at hd;rw [hd];simp only [Option.bind_some];rcases Nat.lt_or_ge t a.tmps.size with hl | hl
 .rw [Array.getElem?_eq_getElem hl]
  rw [Array.getD_eq_getD_getElem?,Array.getElem?_eq_getElem hl] at h;simp only [Option.getD_some] at h;rw [h];rfl
 .rw [Array.getElem?_eq_none hl]
theorem wG {a:Act}{d:Nat}:(a.put (some d) undef).tmps.getD d undef=undef:=by
 rcases Nat.lt_or_ge d a.tmps.size with hl | hl
 .exact uF hl
 .rw [Array.getD_eq_getD_getElem?,Array.getElem?_eq_none (by rw [oy];exact hl)]
  rfl
theorem iH {a:Act}{j t:Nat}{b:Bool}(hd:gz ops j=some t)(h:a.tmps.getD t undef= .bool b):yielded ops a.tmps j=some b:=by
 unfold yielded;unfold gz at hd;rw [hd];have:a.tmps[t]? =some (.bool b):=by
  rcases Nat.lt_or_ge t a.tmps.size with hl | hl
  .rw [Array.getElem?_eq_getElem hl]
   simp [hl] at h;rw [h]
  .simp [Array.getElem?_eq_none hl] at h
   cases h
 simp [this]
include hR in
theorem RG.step {rd:Option Nat}{cR:Nat->Nm}{M0:Mem}{w0:World}{df:List Deferred}{D:Nat->Bool}{i:Nat}{o:Oper}(ho:ops[i]? =some o)(hn:D i=false)(hT:∀ j,j<ops.size->j≠i->(gI bs i j=true\/gI bs j i=true)->D j=decide (j<i))
  (hs:sy P ops (iA ops E0 cU (λ _=>true) i) (fE H0 cU ro (λ _=>true) i) (kk i) o (cU i)) {a:Act} {w:World} {Q:Exit->Act->World->Prop}
  (hI:Inv ops N E0 H0 k0 cU ro kk cR M0 w0 df D a w)  :wpOpIn (jO rd) 0 P ops Q i (Inv ops N E0 H0 k0 cU ro kk cR M0 w0 df (λ j=>D j || j == i)) a w:=by
 have hi:i<ops.size:=(Array.getElem?_eq_some_iff.1 ho).1;obtain ⟨⟨μ,M,gD,hS,hE⟩,hdf,hsz⟩:=hI;have hslot:∀ t,t∈looks ops i->∀ s,iA ops E0 cU (λ _=>true) i t=some s->iA ops E0 cU D ops.size t=some s:=λ t ht s h=>by
  rw [hR.HU hi hn hT ht];exact h
 have hdst:gz ops i=o.dst:=by simp [gz,ho]
 unfold wpOpIn;simp only [ho];rcases hs with ⟨j,want,t,sv,hg,hd,hE',hb,e1,e2,e3,e4⟩ | ⟨hg,hOT,hsub⟩
 .have hv:=gD t _ (hslot t (tv ho hg hd) _ hE')
  have hw:Region.wanted o (yielded ops a.tmps)=false:=by
   simp only [Region.wanted,hg];unfold mP at hb
   split at hb
   .rw [iH hd (Rp.bE.1 hv)]
    simpa using hb
   .obtain ⟨vs,e,hvs⟩:=Rp.eH.1 hv
    have hvs0:vs= #[]:=by have:=aX.aT.1 hvs;simpa using this
    rw [qy hd (by rw [e,hvs0];rfl)];rfl
   .cases hb
  simp only [hw,Bool.false_eq_true,if_false];have hnew:tO ops cU kk (λ j=>D j || j == i)=tO ops cU kk D:=by
   funext n
   apply propext;constructor
   .rintro ⟨j',h1,h2,h3,h4⟩
    by_cases hji:j'=i
    .subst hji;omega
    .exact ⟨j',h1,by simpa [beq_eq_false_iff_ne.2 hji] using h2,h3,h4⟩
   .rintro ⟨j',h1,h2,h3,h4⟩
    exact ⟨j',h1,by simp [h2],h3,h4⟩
  have hpd:pD ops k0 cU kk (λ j=>D j || j == i)=pD ops k0 cU kk D:=by
   unfold pD;rw [hnew]
  have hcont:fE H0 cU ro (λ j=>D j || j == i) ops.size=fE H0 cU ro D ops.size:=by
   cases hr:ro i with
   | true=>exact hR.wF hr
   | false=>
    rw [hR.ze hi hn hT hr,e2,e3]
    funext jg
    exact dz rfl rfl
  refine ⟨λ _ _=>trivial,⟨⟨μ,M,λ t s h=> ?_,by rw [hpd,hcont];exact hS,by rw [hnew,hcont];exact hE⟩,by rw [lS];exact hdf,by rw [oy];exact hsz⟩⟩;rw [hR.zc hi hn] at h;rw [hpd]
  split at h
  .rename_i heq
   rw [e1] at h;injection h with h;subst h;rw [hdst] at heq;rw [heq,wG];exact Rp.eH.2 ⟨#[],rfl,aX.aT.2 rfl⟩
  .rename_i hne
   rw [hdst] at hne;cases hod:o.dst with
   | none=>exact gD t s h
   | some d=>rw [o6 (λ e=>hne (by rw [hod,e]))];exact gD t s h
 .have hw:Region.wanted o (yielded ops a.tmps)=true:=by
   rcases hg with hg | ⟨j,want,t,hg,hd,hE'⟩
   .simp [Region.wanted,hg]
   .have hv:=Rp.bE.1 (gD t _ (hslot t (tv ho hg hd) _ hE'))
    simp only [Region.wanted,hg,iH hd hv];simp
  simp only [hw,if_true];have hnewp:∀ n,(kk i<=n/\n<kk i+(cU i).nk)-> ¬ pD ops k0 cU kk D n:=by
   rintro n ⟨h1,h2⟩ (h3 | ⟨j,hj,hDj,h4,h5⟩)
   .have:=hR.mono (Nat.zero_le i);rw [hR.N2] at this;omega
   .rcases Nat.lt_trichotomy j i with hlt | heq | hgt
    .have:=hR.mono (show j+1<=i by omega);rw [hR.N3] at this;omega
    .subst heq;rw [hDj] at hn;cases hn
    .have:=hR.mono (show i+1<=j by omega);rw [hR.N3] at this;omega
  have hsub':∀ jg ob,lk (cU i).F jg=some ob->fE H0 cU ro D ops.size jg=some ob:=λ jg ob h=>by
   rw [hR.HV hi hn hT (by simp [jj,h])];exact hsub jg ob h
  refine hOT.facts (λ t ht s h=>hslot t (CD ho ht) s h) rd (pD ops k0 cU kk D) μ M a w _ Q hnewp ⟨λ t ht s h=>gD t s h,hS.mem.mc⟩ (hS.sub hsub') λ u bn M' w' hu tI hE'=> ?_
  have hpeq:(λ n=>pD ops k0 cU kk D n\/(kk i<=n/\n<kk i+(cU i).nk))=pD ops k0 cU kk (λ j=>D j || j == i):=by
   funext n
   apply propext;constructor
   .rintro ((h | ⟨j,hj,h1,h2⟩) | h)
    .exact .inl h
    .exact .inr ⟨j,hj,by simp [h1],h2⟩
    .exact .inr ⟨i,hi,by simp,h⟩
   .rintro (h | ⟨j,hj,h1,h2⟩)
    .exact .inl (.inl h)
    .by_cases hji:j=i
     .subst hji;exact .inr h2
     .exact .inl (.inr ⟨j,hj,by simpa [beq_eq_false_iff_ne.2 hji] using h1,h2⟩)
  have hneq:(λ n=>tO ops cU kk D n\/(kk i<=n/\n<kk i+(cU i).nk))=tO ops cU kk (λ j=>D j || j == i):=by
   funext n
   apply propext;constructor
   .rintro (⟨j,hj,h1,h2⟩ | h)
    .exact ⟨j,hj,by simp [h1],h2⟩
    .exact ⟨i,hi,by simp,h⟩
   .rintro ⟨j,hj,h1,h2⟩
    by_cases hji:j=i
    .subst hji;exact .inr h2
    .exact .inl ⟨j,hj,by simpa [beq_eq_false_iff_ne.2 hji] using h1,h2⟩
  have hfr:=hS.AB hsub' hnewp hE' tI λ n h=> .inl h
  rw [hpeq] at hu hfr;have hcont:fE H0 cU ro (λ j=>D j || j == i) ops.size=Ay (fE H0 cU ro D ops.size) (lk (cU i).F) (lk (cU i).F'):=by
   cases hr:ro i with
   | false=>exact hR.ze hi hn hT hr
   | true=>
    rw [hR.wF hr,hR.Pm i hr]
    funext jg
    by_cases h:lk (cU i).F jg=none
    .rw [dz h h]
    .rw [eM (.inl h)]
     obtain ⟨ob,bz⟩:=Option.ne_none_iff_exists'.1 h;rw [bz];exact hsub' jg ob bz
  refine ⟨⟨bn,M',λ t s h=> ?_,by rw [hcont];exact hfr.1,?_⟩,by rw [lS];exact hdf,by rw [oy];exact hsz⟩
  .rw [hR.zc hi hn] at h
   have hold:∀ s,iA ops E0 cU D ops.size t=some s->Rp (pD ops k0 cU kk (λ j=>D j || j == i)) bn M' s (a.tmps.getD t undef):=λ s h=>by
    rw [<- hpeq];exact (gD t s h).more (λ n h=> .inl h) (λ n h=>hE'.old n λ h'=>hnewp n h' h) hE'.mem
   split at h
   .rename_i hd
    injection h with h;subst h;rw [hdst] at hd;rw [hd,uF (by rw [hsz];exact hR.Pk i t (by rw [hdst,hd]))];exact hu
   .rename_i hne
    rw [hdst] at hne;cases hod:o.dst with
    | none=>exact hold s h
    | some d=>rw [o6 (λ e=>hne (by rw [hod,e]))];exact hold s h
  .rw [hcont]
   have:=hE.trans hfr.2
   rwa [hneq] at this
theorem Inv.congr {cR:Nat->Nm}{M0:Mem}{w0:World}{df:List Deferred}{D D':Nat->Bool}{a:Act}{w:World}(h:Inv ops N E0 H0 k0 cU ro kk cR M0 w0 df D a w)(hD:∀ j,j<ops.size->D j=D' j):Inv ops N E0 H0 k0 cU ro kk cR M0 w0 df D' a w:=by
 have e1:iA ops E0 cU D ops.size=iA ops E0 cU D' ops.size:=funext λ t=>fU λ i hi=>by rw [hD i hi]
 have e2:fE H0 cU ro D ops.size=fE H0 cU ro D' ops.size:=funext λ t=>fU λ i hi=>by rw [hD i hi]
 have e3:tO ops cU kk D=tO ops cU kk D':=funext λ n=>propext ⟨λ ⟨j,h1,h2,h3⟩=>⟨j,h1,by rw [<- hD j h1];exact h2,h3⟩,λ ⟨j,h1,h2,h3⟩=>⟨j,h1,by rw [hD j h1];exact h2,h3⟩⟩
 have e4:pD ops k0 cU kk D=pD ops k0 cU kk D':=by unfold pD;rw [e3]
 obtain ⟨⟨μ,M,h1,h2,h3⟩,h4,h5⟩:=h;rw [e1,e4] at h1;rw [e4,e2] at h2;rw [e3,e2] at h3;exact ⟨⟨μ,M,h1,h2,h3⟩,h4,h5⟩
def iI (listed:Array Bool):Nat->Nat
 | 0=>0
 | n+1=>iI listed n+if listed.getD n true then 0 else 1
theorem qz {listed:Array Bool}{i:Nat}(hu:listed.getD i true=false):∀ n,iI (listed.setIfInBounds i true) n+(if i<n then 1 else 0)=iI listed n
 | 0=>by simp [iI]
 | n + 1=>by
  have ih:=qz hu n;simp only [iI]
  by_cases hn:n=i
  .subst hn
   have hlt:n<listed.size:=by
    rcases Nat.lt_or_ge n listed.size with h | h
    .exact h
    .simp [Array.getElem?_eq_none h] at hu
   have h1:(listed.setIfInBounds n true).getD n true=true:=by simp [hlt]
   rw [h1,hu];simp at ih ⊢;omega
  .rw [getD_set_ne true (Ne.symm hn)]
   by_cases hlt:i<n
   .simp [hlt] at ih
    simp [show i<n+1 by omega];omega
   .simp [hlt] at ih
    simp [show ¬ i<n+1 by omega];omega
theorem oz {listed:Array Bool}:∀ {n:Nat},iI listed n=0->∀ j,j<n->listed.getD j true=true
 | 0,_,j,h=>by omega
 | n +1,h,j,hj=>by
  simp only [iI] at h
  by_cases hn:j=n
  .subst hn
   cases hh:listed.getD j true with
   | true=>rfl
   | false=>rw [hh] at h;simp at h
  .exact oz (n:=n) (by omega) j (by omega)
theorem qA {listed:Array Bool}{n:Nat}(h:∀ j,j<n->listed.getD j true=true):iI listed n=0:=by
 induction n with
 | zero=>rfl
 | succ n ih=>simp only [iI,h n (by omega),ih λ j hj=>h j (by omega)];rfl
theorem wI (hb:okB ops bs=true){listed:Array Bool}(hsz:listed.size=ops.size)(h:Region.ready .any ops listed=[]):∀ j,j<ops.size->listed.getD j true=true:=by
 intro j
 induction j using Nat.strongRecOn with
 | _ j ih=>
  intro hj;cases hl:listed.getD j true with
  | true=>rfl
  | false=>
   exfalso
   have:j∈Region.ready .any ops listed:=mem_ready.2 ⟨hl,ops[j],Array.getElem?_eq_getElem hj,λ e he hbd=>by
    simp only [okB,Bool.and_eq_true] at hb;have h2:=List.all_eq_true.1 hb.2 j (List.mem_range.2 hj);rw [Array.getElem?_eq_getElem hj] at h2;simp only [Option.map_some,Option.getD_some] at h2;have h3:=Array.all_eq_true_iff_forall_mem.1 h2 e he;simp only [hbd,Bool.not_true,Bool.false_or,decide_eq_true_eq] at h3;have h4:=ih e.on h3 (by omega);have hlt:e.on<listed.size:=by omega
    simp [hlt] at h4 ⊢;exact h4⟩
   rw [h] at this;cases this
theorem RG.drawn {rd:Option Nat}(hR:RG P ops bs N E0 H0 k0 cU ro kk)(hb:okB ops bs=true)
  (hs:∀ (i:Nat) (o:Oper),ops[i]? =some o->sy P ops (iA ops E0 cU (λ _=>true) i) (fE H0 cU ro (λ _=>true) i) (kk i) o (cU i))
  {cR:Nat->Nm} {M0:Mem} {w0:World} {df:List Deferred} {Q:Exit->Act->World->Prop} (hQ:∀ a w,Inv ops N E0 H0 k0 cU ro kk cR M0 w0 df (λ _=>true) a w->Q .normal a w):
  ∀ (fuel:Nat) (listed:Array Bool) (a:Act) (w:World),listed.size=ops.size->iI listed ops.size=fuel->uE ops (λ j=>listed.getD j false)->Inv ops N E0 H0 k0 cU ro kk cR M0 w0 df (λ j=>listed.getD j false) a w->
   wpAnyIn (jO rd) 0 P .any ops Q fuel listed a w:=by
 have same:∀ (listed:Array Bool),listed.size=ops.size->∀ j,j<ops.size->listed.getD j true=listed.getD j false:=λ listed hl j hj=>by simp [show j<listed.size by omega]
 intro fuel
 induction fuel with
 | zero=>
  intro listed a w hl hcnt hc hI;have hall:=oz hcnt;refine ⟨?_,hQ a w (hI.congr λ j hj=>by rw [<- same listed hl j hj];exact hall j hj)⟩;refine List.eq_nil_iff_forall_not_mem.2 λ i hi=> ?_
  obtain ⟨h1,o,h2,_⟩:=mem_ready.1 hi;rw [hall i (Array.getElem?_eq_some_iff.1 h2).1] at h1;cases h1
 | succ fuel ih=>
  intro listed a w hl hcnt hc hI;refine ⟨λ h=> ?_,λ i hi=> ?_⟩
  .have:=qA (wI hb hl h)
   omega
  .obtain ⟨h1,o,h2,h3⟩:=mem_ready.1 hi
   have hi':i<ops.size:=(Array.getElem?_eq_some_iff.1 h2).1;have hn:listed.getD i false=false:=by rw [<- same listed hl i hi'];exact h1
   have hp:BK ops (λ j=>listed.getD j false) i:=λ o' ho' e he hbd=>by
    rw [h2] at ho';injection ho' with ho';subst ho';exact h3 e he hbd
   refine wpOpIn_mono (λ a' w' hI'=> ?_) (hR.step h2 hn (λ j hj hji ho=>N4 hb hc hi' hj hn hp ho) (hs i o h2) hI);have hD:∀ j,(listed.getD j false || j == i)=(listed.setIfInBounds i true).getD j false:=λ j=>by
    by_cases hji:j=i
    .subst hji
     simp [show j<listed.size by omega]
    .rw [getD_set_ne false (Ne.symm hji)]
     simp [beq_eq_false_iff_ne.2 hji]
   refine ih (listed.setIfInBounds i true) a' w' (by simpa using hl) (by have:=qz h1 ops.size;simp [hi'] at this;omega) (λ j o' hDj ho' e he hbd=> ?_) (hI'.congr λ j _=>hD j);simp only [<- hD] at hDj ⊢;simp only [Bool.or_eq_true,beq_iff_eq] at hDj;rcases hDj with h | rfl
   .simp [hc j o' h ho' e he hbd]
   .rw [h2] at ho';injection ho' with ho';subst ho'
    have:=h3 e he hbd;simp [this]
theorem RG.HW {rd:Option Nat}(hR:RG P ops bs N E0 H0 k0 cU ro kk)
  (hs:∀ (i:Nat) (o:Oper),ops[i]? =some o->sy P ops (iA ops E0 cU (λ _=>true) i) (fE H0 cU ro (λ _=>true) i) (kk i) o (cU i))
  {cR:Nat->Nm} {M0:Mem} {w0:World} {df:List Deferred} {Q:Exit->Act->World->Prop} (hQ:∀ a w,Inv ops N E0 H0 k0 cU ro kk cR M0 w0 df (λ _=>true) a w->Q .normal a w):
  ∀ (m k:Nat) (a:Act) (w:World),k+m=ops.size->Inv ops N E0 H0 k0 cU ro kk cR M0 w0 df (λ j=>decide (j<k)) a w->wpOpsIn (jO rd) 0 P ops Q (List.range' k m) a w:=by
 intro m
 induction m with
 | zero=>
  intro k a w hk hI;simp only [List.range',wpOpsIn];exact hQ a w (hI.congr λ j hj=>by simp;omega)
 | succ m ih=>
  intro k a w hk hI;rw [List.range'_succ,wpOpsIn_cons];have hkn:k<ops.size:=by omega
  refine wpOpIn_mono (λ a' w' hI'=> ?_) (hR.step (Array.getElem?_eq_getElem hkn) (by simp) (λ j _ _ _=>rfl) (hs k _ (Array.getElem?_eq_getElem hkn)) hI);exact ih (k+1) a' w' (by omega) (hI'.congr λ j _=>by
   by_cases h1:j=k
   .subst h1;simp
   .simp [beq_eq_false_iff_ne.2 h1];omega)
end
end
section
def jQ (P:Program)(f:FuncId):Bool:=
 match P.funcs[f]? with
 | some fn=>fn.name != "runtime.NumGoroutine" && fn.body.isSome
 | none=>false
def SC (P:Program)(f:FuncId)(args:List SV)(F:Hp)(k nk:Nat)(Q:SV->Hp->Prop):Prop:=
 jQ P f=true/\
 ∀ (p:Nat->Prop) (μ:Nat->Nm) (M:Mem) (w:World) (vals:Array Value),(∀ n,(k<=n/\n<k+nk)-> ¬ p n)->aX p μ M args vals.toList->bQ p μ M (lk F) w->
  Calls P f vals w λ e w'=>∃ r F' bn M' u,e= .returned u/\Q r F'/\Rp (λ n=>p n\/(k<=n/\n<k+nk)) bn M' r u/\bQ (λ n=>p n\/(k<=n/\n<k+nk)) bn M' (lk F') w'/\
   Ev (lk F) (λ n=>k<=n/\n<k+nk) μ M w (lk F') bn M' w'
def aJ (P:Program)(f:FuncId)(args:List SV)(F:Hp)(k nk:Nat)(v:SV)(F':Hp):Prop:=SC P f args F k nk λ r h=>r=v/\h=F'
theorem SC.mono {P:Program}{f:FuncId}{args:List SV}{F:Hp}{k nk:Nat}{Q Q':SV->Hp->Prop}(h:SC P f args F k nk Q)(hq:∀ r F',Q r F'->Q' r F'):SC P f args F k nk Q':=
 ⟨h.1,λ p μ M w vals h1 h2 h3=>(h.2 p μ M w vals h1 h2 h3).mono λ e w' ⟨r,F',bn,M',u,a,b,c⟩=>⟨r,F',bn,M',u,a,hq r F' b,c⟩⟩
def Ek (P:Program)(l:Nat)(vals:Array Value)(w:World)(R:Ending->World->Prop):Prop:=
 ∃ fn tmps assign body,(Instr.yield l vals).run P w= .ok (.round l fn tmps assign body) w/\RoundIn (jO none) 0 P l fn tmps assign body w R
def SY (P:Program)(nl:Nat)(args:List SV)(F:Hp)(k nk:Nat)(Q:SV->Hp->Prop):Prop:=
 ∀ (p:Nat->Prop) (μ:Nat->Nm) (M:Mem) (w:World) (vals:Array Value),(∀ n,(k<=n/\n<k+nk)-> ¬ p n)->p nl->aX p μ M args vals.toList->bQ p μ M (lk F) w->
  Ek P (μ nl).blk vals w λ e w'=>∃ r F' bn M' u,e= .returned u/\Q r F'/\Rp (λ n=>p n\/(k<=n/\n<k+nk)) bn M' r u/\bQ (λ n=>p n\/(k<=n/\n<k+nk)) bn M' (lk F') w'/\
   Ev (lk F) (λ n=>k<=n/\n<k+nk) μ M w (lk F') bn M' w'
def Mu (P:Program)(nl:Nat)(args:List SV)(F:Hp)(k nk:Nat)(v:SV)(F':Hp):Prop:=SY P nl args F k nk λ r h=>r=v/\h=F'
section
variable {P:Program}
theorem nI {w:World}{f:FuncId}(h:jQ P f=true)(args:Array Value):(callFunc f args).run P w= .ok (.enter f args) w:=by
 unfold jQ at h
 split at h <;> try (cases h;done)
 rename_i fn hf;simp only [Bool.and_eq_true,bne_iff_ne,ne_eq] at h;obtain ⟨c,hc⟩:=Option.isSome_iff_exists.1 h.2;simp [callFunc,hf,h.1,hc]
theorem xY {o:Oper}{E:Nat->Option SV}{c:Call}{fo:Operand}{f':X}{as':List X}{fid:FuncId}{first cap as:List SV}{F:Hp}{k nk:Nat}{Q:SV->Hp->Prop}
  (ho:o.op= .call c) (bZ:c.callee= .value fo) (hf:cX fo=some f') (ha:DX c.args.toList=some as') (h1:ev E f'=some (.fn (.func fid) first cap)) (h2:qu E as'=some as)
  (DY:SC P fid (first++as++cap) F k nk Q) {rd:Option Nat} {p:Nat->Prop} {μ:Nat->Nm} {M:Mem} {a:Act} {w:World} {K:Act->World->Prop} {QQ:Exit->Act->World->Prop} (hnew:∀ n,(k<=n/\n<k+nk)-> ¬ p n)
  (hk:iy E o.op.operands p μ M a) (hS:bQ p μ M (lk F) w)
  (hK:∀ r F' u bn M' w',Q r F'->Rp (λ n=>p n\/(k<=n/\n<k+nk)) bn M' r u->bQ (λ n=>p n\/(k<=n/\n<k+nk)) bn M' (lk F') w'->Ev (lk F) (λ n=>k<=n/\n<k+nk) μ M w (lk F') bn M' w'->K (a.put o.dst u) w'):
  o.wpIn (jO rd) 0 P a w K QQ:=by
 have hin:fo∈o.op.operands:=by simp [ho,Op.operands,Call.operands,bZ]
 have hin2:∀ x∈c.args.toList,x∈o.op.operands:=λ x hx=>by
  rw [ho];simp only [Op.operands,Call.operands,bZ,Array.mem_append];exact .inr (by simpa using hx)
 obtain ⟨fs,cs,e1,r1,r2⟩:=Rp.r9.1 (hk.get hin hf h1);have r3:=hk.xR hin2 ha h2;have hargs:aX p μ M (first++as++cap) (fs++c.args.map a.eval++cs).toList:=by
  simpa using (r1.append r3).append r2
 have hrun:(execOp a.eval o).run P w= .ok (.enter fid (fs++c.args.map a.eval++cs)) w:=by
  simp only [execOp,ho,resolve,bZ,e1,Deferred.ofValue,Sem.run_bind,Sem.run_pure,Result.andThen_ok,invoke,nI DY.1]
 refine ⟨λ _ _=>trivial,?_⟩;rw [oV (λ d e=>by cases e) hrun,Oper.uponIn_enter];refine ⟨(λ h=>by cases h),sg.2 ?_⟩;refine (DY.2 p μ M w _ hnew hargs hS).mono ?_;rintro e w' ⟨r,F',bn,M',u,rfl,hq,hr,tI,hE⟩;exact hK r F' u bn M' w' hq hr tI hE
theorem zf {o:Oper}{E:Nat->Option SV}{c:Call}{fo:Operand}{f':X}{as':List X}{nl:Nat}{as:List SV}{F:Hp}{k nk:Nat}{Q:SV->Hp->Prop}
  (ho:o.op= .call c) (bZ:c.callee= .value fo) (hf:cX fo=some f') (ha:DX c.args.toList=some as') (h1:ev E f'=some (.yl nl)) (h2:qu E as'=some as) (hF:lk F nl≠none)
  (DY:SY P nl as F k nk Q) {rd:Option Nat} {p:Nat->Prop} {μ:Nat->Nm} {M:Mem} {a:Act} {w:World} {K:Act->World->Prop} {QQ:Exit->Act->World->Prop} (hnew:∀ n,(k<=n/\n<k+nk)-> ¬ p n)
  (hk:iy E o.op.operands p μ M a) (hS:bQ p μ M (lk F) w)
  (hK:∀ r F' u bn M' w',Q r F'->Rp (λ n=>p n\/(k<=n/\n<k+nk)) bn M' r u->bQ (λ n=>p n\/(k<=n/\n<k+nk)) bn M' (lk F') w'->Ev (lk F) (λ n=>k<=n/\n<k+nk) μ M w (lk F') bn M' w'->K (a.put o.dst u) w'):
  o.wpIn (jO rd) 0 P a w K QQ:=by
 have hin:fo∈o.op.operands:=by simp [ho,Op.operands,Call.operands,bZ]
 have hin2:∀ x∈c.args.toList,x∈o.op.operands:=λ x hx=>by
  rw [ho];simp only [Op.operands,Call.operands,bZ,Array.mem_append];exact .inr (by simpa using hx)
 have e1:a.eval fo= .func (.yield (μ nl).blk) #[] #[]:=by simpa [di] using (hk.get hin hf h1).rep
 have r3:=hk.xR hin2 ha h2;have hargs:aX p μ M as (c.args.map a.eval).toList:=by simpa using r3
 obtain ⟨ob,bz⟩:=Option.ne_none_iff_exists'.1 hF;obtain ⟨fn,tmps,assign,body,hy,hround⟩:=DY p μ M w _ hnew (hS.obs nl ob bz).1 hargs hS;have hrun:(execOp a.eval o).run P w= .ok (.round (μ nl).blk fn tmps assign body) w:=by
  simp only [execOp,ho,resolve,bZ,e1,Deferred.ofValue,Sem.run_bind,Sem.run_pure,Result.andThen_ok,invoke]
  simpa using hy
 refine ⟨λ _ _=>trivial,?_⟩;rw [oV (λ d e=>by cases e) hrun,Oper.uponIn_round];refine ⟨(λ h=>by cases h),RoundIn.mono (show RoundIn (jO rd) (0 - 1) P _ _ _ _ _ _ _ from hround) ?_⟩;rintro e w' ⟨r,F',bn,M',u,rfl,hq,hr,tI,hE⟩;exact hK r F' u bn M' w' hq hr tI hE
structure SI where
 dst:Option Nat
 op:SO
 g:Option (Nat×Bool)
def ql (P:Program)(ops:Array Oper)(o:Oper):Option SI:=
 match cO P o.op with
 | some so=>match o.guard with
  | none=>some ⟨o.dst,so,none⟩
  | some (j,w)=>match gz ops j with
   | some t=>some ⟨o.dst,so,some (t,w)⟩
   | none=>none
 | none=>none
def uG (P:Program)(ops:Array Oper):List Oper->Option (List SI)
 | []=>some []
 | o::r=>match ql P ops o,uG P ops r with
  | some s,some ss=>some (s::ss)
  | _,_=>none
structure St where
 env:List (Nat×SV)
 hp:Hp
 k:Nat
inductive CR where
 | own
 | iB
 | call (F:Hp) (v:SV) (F':Hp) (nk:Nat)
 | OW (pt:FuncId->List SV->Option SV)
def HSub (F h:Hp):Prop:=∀ n ob,lk F n=some ob->lk h n=some ob
def fM (P:Program)(st:St)(so:SO)(dG:List CR):Option (mG×List CR):=
 match so with
 | .call f args=>match ev (λ t=>st.env.lookup t) f,qu (λ t=>st.env.lookup t) args,dG with
  | some (.fn (.func fid) first cap),some as,.call F v F' nk::crs'=>some (⟨v,F,F',nk,aJ P fid (first++as++cap) F st.k nk v F'/\HSub F st.hp⟩,crs')
  | some (.fn (.func fid) first cap),some as,.OW pt::crs'=>match pt fid (first++as++cap) with
   | some v=>some (⟨v,[],[],0,aJ P fid (first++as++cap) [] st.k 0 v []/\HSub [] st.hp⟩,.OW pt::crs')
   | none=>none
  | some (.yl nl),some as,.call F v F' nk::crs'=>some (⟨v,F,F',nk,Mu P nl as F st.k nk v F'/\lk F nl≠none/\HSub F st.hp⟩,crs')
  | _,_,_=>none
 | .qf e sz len z parts=>match dG with
  | .own::crs'=>match dF (λ t=>st.env.lookup t) (lk st.hp) st.k true (.qf e sz len z parts) with
   | some e=>some (e,crs')
   | none=>none
  | .iB::crs'=>match dF (λ t=>st.env.lookup t) (lk st.hp) st.k false (.qf e sz len z parts) with
   | some e=>some (e,crs')
   | none=>none
  | dG=>match dF (λ t=>st.env.lookup t) (lk st.hp) st.k false (.qf e sz len z parts) with
   | some e=>some (e,dG)
   | none=>none
 | so=>match dF (λ t=>st.env.lookup t) (lk st.hp) st.k false so with
  | some e=>some (e,dG)
  | none=>none
def gd (P:Program)(st:St)(si:SI)(dG:List CR):Option (mG×List CR):=
 match si.g with
 | none=>fM P st si.op dG
 | some (t,w)=>match st.env.lookup t with
  | some (.d (.bool b))=>if b == w then fM P st si.op dG else some (⟨.eu [],[],[],0,True⟩,dG)
  | some (.eu [])=>some (⟨.eu [],[],[],0,True⟩,dG)
  | _=>none
def gf:Hp->Nat->Ob->Hp
 | [],n,ob=>[(n,ob)]
 | (m,o)::h,n,ob=>if m=n then (n,ob)::h else (m,o)::gf h n ob
def gh (h:Hp)(n:Nat)(ob:Ob):Hp:=match lk h n with
 | some _=>gf h n ob
 | none=>(n,ob)::h
def cE:Hp->Nat->Hp
 | [],n=>[]
 | (m,o)::h,n=>if m=n then cE h n else (m,o)::cE h n
def cg (h:Hp):Hp->Hp
 | []=>h
 | (n,ob)::r=>gh (cg h r) n ob
def cq (h:Hp)(F':Hp):Hp->Hp
 | []=>h
 | (n,_)::r=>if (lk F' n).isSome then cq h F' r else cE (cq h F' r) n
def bR (ro:Bool)(h F F':Hp):Hp:=if ro then h else cg (cq h F' F) F'
theorem tY:∀ (h:Hp) (n:Nat) (ob:Ob) (m:Nat),lk (gf h n ob) m=if m=n then some ob else lk h m
 | [],n,ob,m=>by simp only [gf];rw [cQ];rfl
 | (q, o)::h,n,ob,m=>by
  simp only [gf]
  split
  .rename_i e
   subst e;rw [aa,aa]
   split <;> rfl
  .rename_i e
   rw [aa,aa,tY h n ob m]
   by_cases h2:m=n
   .subst h2
    have:m≠q:=λ h=>e h.symm
    simp [this]
   .simp [h2]
theorem qW (h:Hp)(n:Nat)(ob:Ob)(m:Nat):lk (gh h n ob) m=if m=n then some ob else lk h m:=by
 unfold gh
 split
 .exact tY h n ob m
 .have:lk ((n,ob)::h) m=if m=n then some ob else lk h m:=by
   unfold lk;simp only [List.lookup]
   by_cases e:m=n
   .subst e;simp
   .rw [if_neg e,show (m == n)=false by simpa using e]
  exact this
theorem dg:∀ (h:Hp) (n m:Nat),lk (cE h n) m=if m=n then none else lk h m
 | [],n,m=>by simp [cE,bD]
 | (q, o)::h,n,m=>by
  simp only [cE]
  split
  .rename_i e
   subst e;rw [dg h q m,aa]
   split <;> rfl
  .rename_i e
   rw [aa,aa,dg h n m]
   by_cases h2:m=n
   .subst h2
    have:m≠q:=λ h=>e h.symm
    simp [this]
   .simp [h2]
theorem zg (h:Hp):∀ (F':Hp) (m:Nat),lk (cg h F') m=match lk F' m with
  | some ob=>some ob
  | none=>lk h m
 | [],m=>by simp [cg,bD]
 | (n,ob)::r,m=>by
  simp only [cg];rw [qW,zg h r m,aa]
  by_cases h1:m=n <;> simp [h1]
theorem uH (h F':Hp):∀ (F:Hp) (m:Nat),lk (cq h F' F) m=if (lk F m).isSome && (lk F' m).isNone then none else lk h m
 | [],m=>by simp [cq,bD]
 | (n, ob)::r,m=>by
  simp only [cq]
  split
  .rename_i h1
   rw [uH h F' r m,aa]
   by_cases h2:m=n
   .subst h2
    have:(lk F' m).isNone=false:=by
     cases hh:lk F' m with
     | none=>rw [hh] at h1;cases h1
     | some _=>rfl
    simp [this]
   .simp [h2]
  .rename_i h1
   rw [dg,uH h F' r m,aa]
   by_cases h2:m=n
   .subst h2
    simp at h1;simp [h1]
   .simp [h2]
theorem h_ {ro:Bool}{h F F':Hp}(hs:HSub F h)(hr:ro=true->F'=F):lk (bR ro h F F')=Ay (lk h) (lk F) (lk F'):=by
 funext m
 unfold bR;cases ro with
 | true=>
  rw [hr rfl]
  by_cases h1:lk F m=none
  .rw [dz h1 h1];rfl
  .rw [eM (.inl h1)]
   obtain ⟨ob,bz⟩:=Option.ne_none_iff_exists'.1 h1;rw [bz];exact hs m ob bz
 | false=>
  simp only [Bool.false_eq_true,if_false];rw [zg,uH];cases h1:lk F' m with
  | some ob=>rw [eM (.inr (by rw [h1];simp))];simp [h1]
  | none=>
   cases h2:lk F m with
   | some ob=>rw [eM (.inl (by rw [h2];simp))];simp [h1]
   | none=>rw [dz h2 h1];simp
def mz (st:St)(si:SI)(e:mG):St:=
 ⟨match si.dst with | some d=>(d,e.v)::st.env | none=>st.env,bR (dx si.op) st.hp e.F e.F',st.k+e.nk⟩
def ij (si:SI)(e:mG):Bool×List Nat:=(dx si.op,e.F.map (·.1)++e.F'.map (·.1))
def runs (P:Program):List SI->St->List CR->Option (St×Prop×List (Bool×List Nat))
 | [],st,_=>some (st,True,[])
 | si::r,st,dG=>match gd P st si dG with
  | some (e,crs')=>match runs P r (mz st si e) crs' with
   | some (st',ob,ts)=>some (st',e.ob/\ob,ij si e::ts)
   | none=>none
  | none=>none
def mA (bs:List Nat)(ts:List (Bool×List Nat)):Bool:=
 zb ts.length λ i j=>i == j || (ts.getD i (true,[])).1 || !((ts.getD i (true,[])).2.any λ n=>(ts.getD j (true,[])).2.contains n) || gI bs i j || gI bs j i
def oe (n:Nat):List Nat:=(List.range n).map λ j=>2 ^ j - 1
def trace (P:Program):List SI->St->List CR->List mG
 | [],_,_=>[]
 | si::r,st,dG=>match gd P st si dG with
  | some (e,crs')=>e::trace P r (mz st si e) crs'
  | none=>[]
def jR:List SI->St->List mG->Nat->St
 | si::r,st,e::es,i+1=>jR r (mz st si e) es i
 | _,st,_,_=>st
theorem qX {st':St}:∀ {de:List SI} {st:St} {dG:List CR} {ob:Prop} {ts:List (Bool×List Nat)},runs P de st dG=some (st',ob,ts)->(trace P de st dG).length=de.length/\ts=(List.zipWith ij de (trace P de st dG))/\
  (ob->∀ e∈trace P de st dG,e.ob)/\st'=jR de st (trace P de st dG) de.length
 | [],st,dG,ob,ts,h=>by
  simp [runs] at h;obtain ⟨rfl,_,rfl⟩:=h;simp [trace,jR]
 | si::r,st,dG,ob,ts,h=>by
  simp only [runs] at h
  split at h <;> try (cases h;done)
  rename_i e crs' he
  split at h <;> try (cases h;done)
  rename_i st2 HH ts2 h2;simp only [Option.some.injEq,Prod.mk.injEq] at h;obtain ⟨rfl,rfl,rfl⟩:=h;obtain ⟨a1,a2,a3,a4⟩:=qX h2;simp only [trace,he];refine ⟨by simp [a1],by simp [<- a2],λ h e' he'=> ?_,by simpa [jR] using a4⟩;rcases List.mem_cons.1 he' with rfl | he'
  .exact h.1
  .exact a3 h.2 e' he'
theorem o7:∀ (de:List SI) (st:St) (es:List mG) (i:Nat) (si:SI) (e:mG),de[i]? =some si->es[i]? =some e->jR de st es (i+1)=mz (jR de st es i) si e
 | [],st,es,i,si,e,h,_=>by simp at h
 | si'::r,st,[],i,si,e,_,h=>by simp at h
 | si'::r,st,e'::es,0,si,e,h1,h2=>by
  simp at h1 h2;subst h1;subst h2;cases r <;> cases es <;> simp [jR]
 | si'::r,st,e'::es,i+1,si,e,h1,h2=>by
  simp only [jR];exact o7 r _ es i si e (by simpa using h1) (by simpa using h2)
theorem uI:∀ {de:List SI} {st:St} {dG:List CR} {i:Nat} {si:SI} {e:mG},de[i]? =some si->(trace P de st dG)[i]? =some e->∃ c1 c2,gd P (jR de st (trace P de st dG) i) si c1=some (e,c2)
 | [],st,dG,i,si,e,h,_=>by simp at h
 | si'::r,st,dG,i,si,e,h1,h2=>by
  simp only [trace] at h2 ⊢
  split at h2 <;> first | (simp at h2;done) | skip
  rename_i e' crs' he;cases i with
  | zero=>
   simp at h1 h2;subst h1;subst h2;exact ⟨dG,crs',by simpa [jR] using he⟩
  | succ i=>
   obtain ⟨c1,c2,h⟩:=uI (de:=r) (st:=mz st si' e') (dG:=crs') (i:=i) (by simpa using h1) (by simpa using h2);exact ⟨c1,c2,by simpa [jR] using h⟩
theorem nJ (env:List (Nat×SV))(d:Nat)(v:SV)(t:Nat):((d,v)::env).lookup t=if d=t then some v else env.lookup t:=by
 simp only [List.lookup]
 by_cases h:t=d
 .subst h;simp
 .rw [show (t == d)=false by simpa using h,if_neg (Ne.symm h)]
theorem KB {E:Nat->Option SV}{H:Nat->Option Ob}{k:Nat}{own:Bool}{so:SO}{e:mG}(h:dF E H k own so=some e)(hr:dx so=true):e.F'=e.F:=by
 cases so <;> simp only [dx,Bool.false_eq_true] at hr <;> simp only [dF] at h <;>
  (repeat' (first | (cases h;done) | (injection h with h;subst h;rfl) | split at h))
theorem qY {op:Op}{f:X}{args:List X}(hc:cO P op=some (.call f args)):∃ c fo,op= .call c/\c.callee= .value fo/\cX fo=some f/\DX c.args.toList=some args:=by
 cases op <;> simp only [cO] at hc <;> try (cases hc;done)
 case call c=>
  refine ⟨c,?_⟩;cases bZ:c.callee with
  | value fo=>
   simp only [bZ] at hc
   split at hc <;> try (cases hc;done)
   rename_i f' as' hf ha;injection hc with hc;injection hc with hc1 Hz;subst hc1;subst Hz;exact ⟨fo,rfl,rfl,hf,ha⟩
  | invoke _ _=>simp [bZ] at hc
  | builtin b=>
   exfalso
   simp only [bZ] at hc
   repeat' (first | contradiction | (cases hc;done) | split at hc)
 all_goals (repeat' (first | contradiction | (cases hc;done) | (obtain ⟨_,_,hh⟩:=Option.map_eq_some_iff.1 hc;cases hh;done) | split at hc))
theorem uJ {ops:Array Oper}{o:Oper}{st:St}{so:SO}{c1 c2:List CR}{e:mG}(hc:cO P o.op=some so)(h:fM P st so c1=some (e,c2))(bz:e.ob):
  Sound P o (λ t=>st.env.lookup t) (lk st.hp) st.k e/\(dx so=true->e.F'=e.F):=by
 have plain:∀ (own:Bool) (c:List CR),dF (λ t=>st.env.lookup t) (lk st.hp) st.k own so=some e->Sound P o (λ t=>st.env.lookup t) (lk st.hp) st.k e/\(dx so=true->e.F'=e.F):=λ own c hs=>
  ⟨CC hc hs bz,KB hs⟩
 unfold fM at h
 split at h
 .rename_i f args
  split at h <;> try (cases h;done)
  .rename_i fid first cap as F v F' nk crs' h1 h2
   injection h with h;injection h with h h';subst h;subst h';obtain ⟨DY,hsub⟩:=bz;refine ⟨⟨?_,hsub⟩,λ hr=>by simp [dx] at hr⟩;obtain ⟨c,fo,hop,bZ,hf,ha⟩:=qY hc;intro rd p μ M a w K Q hnew hk hS hK;exact xY hop bZ hf ha h1 h2 DY hnew hk hS λ r F'' u bn M' w' ⟨e1,e2⟩ hr tI hE=>by
    subst e1;subst e2;exact hK u bn M' w' hr tI hE
  .rename_i fid first cap as pt crs' h1 h2
   split at h <;> try (cases h;done)
   rename_i v hv;injection h with h;injection h with h h';subst h;subst h';obtain ⟨DY,hsub⟩:=bz;refine ⟨⟨?_,hsub⟩,λ hr=>by simp [dx] at hr⟩;obtain ⟨c,fo,hop,bZ,hf,ha⟩:=qY hc;intro rd p μ M a w K Q hnew hk hS hK;exact xY hop bZ hf ha h1 h2 DY hnew hk hS λ r F'' u bn M' w' ⟨e1,e2⟩ hr tI hE=>by
    subst e1;subst e2;exact hK u bn M' w' hr tI hE
  .rename_i nl as F v F' nk crs' h1 h2
   injection h with h;injection h with h h';subst h;subst h';obtain ⟨DY,hnl,hsub⟩:=bz;refine ⟨⟨?_,hsub⟩,λ hr=>by simp [dx] at hr⟩;obtain ⟨c,fo,hop,bZ,hf,ha⟩:=qY hc;intro rd p μ M a w K Q hnew hk hS hK;exact zf hop bZ hf ha h1 h2 hnl DY hnew hk hS λ r F'' u bn M' w' ⟨e1,e2⟩ hr tI hE=>by
    subst e1;subst e2;exact hK u bn M' w' hr tI hE
 .split at h
  .split at h <;> try (cases h;done)
   rename_i hs;injection h with h;injection h with h h';subst h;exact plain true [] hs
  all_goals
   split at h <;> try (cases h;done)
   rename_i hs;injection h with h;injection h with h h';subst h;exact plain false [] hs
 .split at h <;> try (cases h;done)
  rename_i hs;injection h with h;injection h with h h';subst h;exact plain false [] hs
def HX (ops:Array Oper)(draw:Bool):List Nat:=if draw then (Region.before ops).toList else oe ops.size
def El (P:Program)(N:Nat)(ops:Array Oper)(draw:Bool):Option (List SI×List Nat):=
 match uG P ops ops.toList with
 | some de=>
  if ((!draw || okB ops (HX ops draw)) && BJ ops (HX ops draw) && (de.all λ s=>match s.dst with | some d=>decide (d<N) | none=>true))=true then some (de,HX ops draw) else none
 | none=>none
theorem nL {ops:Array Oper}:∀ {l:List Oper} {de:List SI},uG P ops l=some de->l.length=de.length/\∀ (i:Nat) (o:Oper),l[i]? =some o->∃ si,de[i]? =some si/\ql P ops o=some si
 | [],de,h=>by simp [uG] at h;subst h;simp
 | o::l,de,h=>by
  simp only [uG] at h
  split at h <;> try (cases h;done)
  rename_i s ss h1 h2;simp at h;subst h;obtain ⟨a1,a2⟩:=nL h2;refine ⟨by simp [a1],λ i o' hi=> ?_⟩;cases i with
  | zero=>simp at hi;subst hi;exact ⟨s,rfl,h1⟩
  | succ i=>simpa using a2 i o' (by simpa using hi)
theorem wJ {n i j:Nat}(hj:j<n)(hij:i<j):gI (oe n) i j=true:=by
 unfold gI oe;rw [List.getD_eq_getElem?_getD,List.getElem?_map,List.getElem?_range hj];simp only [Option.map_some,Option.getD_some];rw [Nat.testBit_two_pow_sub_one]
 simpa using hij
end
end
section
mutual
def SV.ok (q:Nat->Bool):SV->Bool
 | .d _=>true
 | .ptr n _=>q n
 | .gs n _=>q n
 | .vp _ _=>true
 | .bs n _ _=>q n
 | .mp n=>q n
 | .it n=>q n
 | .yl n=>q n
 | .fn _ a c=>SV.ay q a && SV.ay q c
 | .agg cs=>SV.ay q cs
 | .eu cs=>SV.ay q cs
 | .any=>true
def SV.ay (q:Nat->Bool):List SV->Bool
 | []=>true
 | c::cs=>SV.ok q c && SV.ay q cs
end
mutual
def SV.aA (ρ:Nat->Nat):SV->SV
 | .d x=> .d x
 | .ptr n o=> .ptr (ρ n) o
 | .gs n l=> .gs (ρ n) l
 | .vp cs i=> .vp cs i
 | .bs n o l=> .bs (ρ n) o l
 | .mp n=> .mp (ρ n)
 | .it n=> .it (ρ n)
 | .yl n=> .yl (ρ n)
 | .fn f a c=> .fn f (SV.aQ ρ a) (SV.aQ ρ c)
 | .agg cs=> .agg (SV.aQ ρ cs)
 | .eu cs=> .eu (SV.aQ ρ cs)
 | .any=> .any
def SV.aQ (ρ:Nat->Nat):List SV->List SV
 | []=>[]
 | c::cs=>SV.aA ρ c::SV.aQ ρ cs
end
mutual
theorem di.congr {q:Nat->Bool}{μ ν:Nat->Nm}{M:Mem}(h:∀ n,q n=true->ν n=μ n):∀ (s:SV) (v:Value),s.ok q=true->di μ M s v->di ν M s v
 | .d x,v,_,hr=>by simpa [di] using hr
 | .ptr n o,v,hq,hr=>by simp only [di,SV.ok] at *;rw [h n hq];exact hr
 | .gs n l,v,hq,hr=>by simp only [di,SV.ok] at *;rw [h n hq];exact hr
 | .vp cs i,v,_,hr=>by simpa [di] using hr
 | .bs n _ _,v,hq,hr=>by simp only [di,SV.ok] at *;rw [h n hq];exact hr
 | .mp n,v,hq,hr=>by simp only [di,SV.ok] at *;rw [h n hq];exact hr
 | .it n,v,hq,hr=>by simp only [di,SV.ok] at *;rw [h n hq];exact hr
 | .yl n,v,hq,hr=>by simp only [di,SV.ok] at *;rw [h n hq];exact hr
 | .fn f a c,v,hq,hr=>by
  simp only [di,SV.ok,Bool.and_eq_true] at*;obtain ⟨as,cs,e,h1,h2⟩:=hr;exact ⟨as,cs,e,cI.congr h a _ hq.1 h1,cI.congr h c _ hq.2 h2⟩
 | .agg cs,v,hq,hr=>by
  simp only [di,SV.ok] at*;obtain ⟨vs,e,h1⟩:=hr;exact ⟨vs,e,cI.congr h cs _ hq h1⟩
 | .eu cs,v,hq,hr=>by
  simp only [di,SV.ok] at*;obtain ⟨vs,e,h1⟩:=hr;exact ⟨vs,e,cI.congr h cs _ hq h1⟩
 | .any,_,_,_=>by simp [di]
theorem cI.congr {q:Nat->Bool}{μ ν:Nat->Nm}{M:Mem}(h:∀ n,q n=true->ν n=μ n):∀ (s:List SV) (v:List Value),SV.ay q s=true->cI μ M s v->cI ν M s v
 | [],v,_,hr=>by simpa [cI] using hr
 | c::cs,v,hq,hr=>by
  simp only [cI,SV.ay,Bool.and_eq_true] at*;obtain ⟨u,us,e,h1,h2⟩:=hr;exact ⟨u,us,e,di.congr h c u hq.1 h1,cI.congr h cs us hq.2 h2⟩
end
mutual
theorem di.eU {ρ:Nat->Nat}{μ:Nat->Nm}{M:Mem}:∀ (s:SV) (v:Value),di μ M (s.aA ρ) v↔di (λ n=>μ (ρ n)) M s v
 | .d x,v=>by simp [di,SV.aA]
 | .ptr n o,v=>by simp [di,SV.aA]
 | .gs n l,v=>by simp [di,SV.aA]
 | .vp cs i,v=>by simp [di,SV.aA]
 | .bs n _ _,v=>by simp [di,SV.aA]
 | .mp n,v=>by simp [di,SV.aA]
 | .it n,v=>by simp [di,SV.aA]
 | .yl n,v=>by simp [di,SV.aA]
 | .fn f a c,v=>by
  simp only [di,SV.aA];constructor
  .rintro ⟨as,cs,e,h1,h2⟩;exact ⟨as,cs,e,(cI.eU a _).1 h1,(cI.eU c _).1 h2⟩
  .rintro ⟨as,cs,e,h1,h2⟩;exact ⟨as,cs,e,(cI.eU a _).2 h1,(cI.eU c _).2 h2⟩
 | .agg cs,v=>by
  simp only [di,SV.aA];constructor
  .rintro ⟨vs,e,h1⟩;exact ⟨vs,e,(cI.eU cs _).1 h1⟩
  .rintro ⟨vs,e,h1⟩;exact ⟨vs,e,(cI.eU cs _).2 h1⟩
 | .eu cs,v=>by
  simp only [di,SV.aA];constructor
  .rintro ⟨vs,e,h1⟩;exact ⟨vs,e,(cI.eU cs _).1 h1⟩
  .rintro ⟨vs,e,h1⟩;exact ⟨vs,e,(cI.eU cs _).2 h1⟩
 | .any,_=>by simp [di,SV.aA]
theorem cI.eU {ρ:Nat->Nat}{μ:Nat->Nm}{M:Mem}:∀ (s:List SV) (v:List Value),cI μ M (SV.aQ ρ s) v↔cI (λ n=>μ (ρ n)) M s v
 | [],v=>by simp [cI,SV.aQ]
 | c::cs,v=>by
  simp only [cI,SV.aQ];constructor
  .rintro ⟨u,us,e,h1,h2⟩;exact ⟨u,us,e,(di.eU c u).1 h1,(cI.eU cs us).1 h2⟩
  .rintro ⟨u,us,e,h1,h2⟩;exact ⟨u,us,e,(di.eU c u).2 h1,(cI.eU cs us).2 h2⟩
end
theorem SV.xZ {q:Nat->Bool}:∀ {cs:List SV},SV.ay q cs=true↔∀ c∈cs,c.ok q=true
 | []=>by simp [SV.ay]
 | c::cs=>by simp [SV.ay,SV.xZ (cs:=cs)]
theorem SV.bg {q:Nat->Bool}(xs:List DV):SV.ay q (xs.map .d)=true:=by
 rw [SV.xZ];intro c hc;obtain ⟨x,_,rfl⟩:=List.mem_map.1 hc;rfl
theorem SV.eE {ρ:Nat->Nat}:∀ (xs:List DV),SV.aQ ρ (xs.map .d)=xs.map .d
 | []=>rfl
 | x::xs=>by simp [SV.aQ,SV.aA,SV.eE xs]
def Ob.ok (q:Nat->Bool):Ob->Bool
 | .box _ cs=>SV.ay q cs
 | .arr _ _ _ cs=>SV.ay q cs
 | .map es _=>es.all λ e=>e.2.1.ok q && e.2.2.ok q
 | .gy=>true
 | .iter mo _ _ _=>match mo with
  | some n=>q n
  | none=>true
 | .oU _ _ cs _ _ _ _ _=>SV.ay q cs
def Ob.aA (ρ:Nat->Nat):Ob->Ob
 | .box t cs=> .box t (SV.aQ ρ cs)
 | .arr e sz len cs=> .arr e sz len (SV.aQ ρ cs)
 | .map es c=> .map (es.map λ e=>(e.1,e.2.1.aA ρ,e.2.2.aA ρ)) c
 | .gy=> .gy
 | .iter mo a b c=> .iter (mo.map ρ) a b c
 | .oU N ts cs ps as bd st pe=> .oU N ts (SV.aQ ρ cs) ps as bd st pe
def Hp.aA (ρ:Nat->Nat)(h:Hp):Hp:=h.map λ x=>(ρ x.1,x.2.aA ρ)
def Hp.ok (q:Nat->Bool)(h:Hp):Bool:=h.all λ x=>q x.1 && x.2.ok q
section
variable {p p':Nat->Prop} {μ ν:Nat->Nm} {M:Mem}
theorem Rp.Em {q:Nat->Bool}{s:SV}{v:Value}(hq:s.ok q=true)(hp:∀ n,q n=true->p n)(h:di μ M s v):Rp p μ M s v:=
 λ ν iw=>di.congr (λ n hn=>iw n (hp n hn)) s v hq h
theorem aX.BL {q:Nat->Bool}{s:List SV}{v:List Value}(hq:SV.ay q s=true)(hp:∀ n,q n=true->p n)(h:cI μ M s v):aX p μ M s v:=
 λ ν iw=>cI.congr (λ n hn=>iw n (hp n hn)) s v hq h
theorem Rp.to {q:Nat->Bool}{ρ:Nat->Nat}{s:SV}{v:Value}(hq:s.ok q=true)(hp:∀ n,q n=true->p n)(iw:∀ n,q n=true->ν n=μ (ρ n))(h:di μ M (s.aA ρ) v):Rp p ν M s v:=
 Rp.Em hq hp (di.congr iw s v hq ((di.eU s v).1 h))
theorem Rp.back {q:Nat->Bool}{ρ:Nat->Nat}{s:SV}{v:Value}(hq:s.ok q=true)(hp:∀ n,q n=true->p (ρ n))(iw:∀ n,q n=true->μ (ρ n)=ν n)(h:di ν M s v):Rp p μ M (s.aA ρ) v:=
 λ bn hμ'=>(di.eU s v).2 (di.congr (λ n hn=>(hμ' _ (hp n hn)).trans (iw n hn)) s v hq h)
theorem aX.to {q:Nat->Bool}{ρ:Nat->Nat}{s:List SV}{v:List Value}(hq:SV.ay q s=true)(hp:∀ n,q n=true->p n)(iw:∀ n,q n=true->ν n=μ (ρ n))(h:cI μ M (SV.aQ ρ s) v):aX p ν M s v:=
 aX.BL hq hp (cI.congr iw s v hq ((cI.eU s v).1 h))
theorem aX.back {q:Nat->Bool}{ρ:Nat->Nat}{s:List SV}{v:List Value}(hq:SV.ay q s=true)(hp:∀ n,q n=true->p (ρ n))(iw:∀ n,q n=true->μ (ρ n)=ν n)(h:cI ν M s v):aX p μ M (SV.aQ ρ s) v:=
 λ bn hμ'=>(cI.eU s v).2 (cI.congr (λ n hn=>(hμ' _ (hp n hn)).trans (iw n hn)) s v hq h)
theorem gX.to {q:Nat->Bool}{ρ:Nat->Nat}(hp:∀ n,q n=true->p n)(iw:∀ n,q n=true->ν n=μ (ρ n)):∀ (es:List (Nat×SV×SV)) (dK:List MapEntry),(es.all λ e=>e.2.1.ok q && e.2.2.ok q)=true->
  gX p' μ M (es.map λ e=>(e.1,e.2.1.aA ρ,e.2.2.aA ρ)) dK->gX p ν M es dK
 | [],dK,_,h=>h
 | (b,k,v)::es,dK,hq,h=>by
  simp only [List.all_cons,Bool.and_eq_true] at hq;obtain ⟨e,es',rfl,h2,h3,h4,h5⟩:=h;exact ⟨e,es',rfl,h2,Rp.to hq.1.1 hp iw h3.rep,Rp.to hq.1.2 hp iw h4.rep,gX.to hp iw es es' (by simpa using hq.2) h5⟩
theorem gX.back {q:Nat->Bool}{ρ:Nat->Nat}(hp:∀ n,q n=true->p (ρ n))(iw:∀ n,q n=true->μ (ρ n)=ν n):∀ (es:List (Nat×SV×SV)) (dK:List MapEntry),(es.all λ e=>e.2.1.ok q && e.2.2.ok q)=true->
  gX p' ν M es dK->gX p μ M (es.map λ e=>(e.1,e.2.1.aA ρ,e.2.2.aA ρ)) dK
 | [],dK,_,h=>h
 | (b,k,v)::es,dK,hq,h=>by
  simp only [List.all_cons,Bool.and_eq_true] at hq;obtain ⟨e,es',rfl,h2,h3,h4,h5⟩:=h;exact ⟨e,es',rfl,h2,Rp.back hq.1.1 hp iw h3.rep,Rp.back hq.1.2 hp iw h4.rep,gX.back hp iw es es' (by simpa using hq.2) h5⟩
theorem cB.to {w:World}{q:Nat->Bool}{ρ:Nat->Nat}{m:Nm}{ob:Ob}(hq:ob.ok q=true)(hp:∀ n,q n=true->p n)(iw:∀ n,q n=true->ν n=μ (ρ n))(h:cB p' μ M w m (ob.aA ρ)):cB p ν M w m ob:=by
 cases ob <;> simp only [cB,Ob.aA,Ob.ok] at h hq ⊢
 case box=>obtain ⟨h0,vs,h1,h2⟩:=h;exact ⟨h0,vs,h1,aX.to hq hp iw h2.vS⟩
 case arr=>
  have hl:∀ (l:List SV),(SV.aQ ρ l).length=l.length:=λ l=>by induction l <;> simp_all [SV.aQ]
  rcases h with ⟨a1,a2,a3⟩ | ⟨h0,vs,h1,h2,h3,h4,h5,h6⟩
  .exact .inl ⟨a1,a2,List.eq_nil_of_length_eq_zero (by rw [<- hl,a3];rfl)⟩
  exact .inr ⟨h0,vs,h1,by rw [<- h2,hl],h3,h4,h5,aX.to hq hp iw h6.vS⟩
 case map=>obtain ⟨h0,dK,h1,h2⟩:=h;exact ⟨h0,dK,h1,gX.to hp iw _ _ hq h2⟩
 case gy=>exact h
 case iter mo a b c=>
  cases mo with
  | none=>exact ⟨h.1,λ n hn=>(by cases hn),by simpa using h.2.2⟩
  | some n=>
   refine ⟨h.1,λ n' hn=>by injection hn with hn;subst hn;exact hp n hq,?_⟩;simp only [Option.map_some] at h ⊢;rw [iw n hq];exact h.2.2
 case oU=>obtain ⟨h0,r,h1,h2,h3⟩:=h;exact ⟨h0,r,h1,aX.to hq hp iw h2.vS,h3⟩
theorem cB.back {w:World}{q:Nat->Bool}{ρ:Nat->Nat}{m:Nm}{ob:Ob}(hq:ob.ok q=true)(hp:∀ n,q n=true->p (ρ n))(iw:∀ n,q n=true->μ (ρ n)=ν n)(h:cB p' ν M w m ob):cB p μ M w m (ob.aA ρ):=by
 cases ob <;> simp only [cB,Ob.aA,Ob.ok] at h hq ⊢
 case box=>obtain ⟨h0,vs,h1,h2⟩:=h;exact ⟨h0,vs,h1,aX.back hq hp iw h2.vS⟩
 case arr=>
  have hl:∀ (l:List SV),(SV.aQ ρ l).length=l.length:=λ l=>by induction l <;> simp_all [SV.aQ]
  rcases h with ⟨a1,a2,a3⟩ | ⟨h0,vs,h1,h2,h3,h4,h5,h6⟩
  .exact .inl ⟨a1,a2,by rw [a3];rfl⟩
  exact .inr ⟨h0,vs,h1,by rw [hl,h2],h3,h4,h5,aX.back hq hp iw h6.vS⟩
 case map=>obtain ⟨h0,dK,h1,h2⟩:=h;exact ⟨h0,dK,h1,gX.back hp iw _ _ hq h2⟩
 case gy=>exact h
 case iter mo a b c=>
  cases mo with
  | none=>exact ⟨h.1,λ n hn=>(by cases hn),by simpa using h.2.2⟩
  | some n=>
   refine ⟨h.1,λ n' hn=>by simp at hn;subst hn;exact hp n hq,?_⟩;simp only [Option.map_some] at h ⊢;rw [iw n hq];exact h.2.2
 case oU=>obtain ⟨h0,r,h1,h2,h3⟩:=h;exact ⟨h0,r,h1,aX.back hq hp iw h2.vS,h3⟩
end
theorem kX:∀ {h:Hp} {n:Nat} {ob:Ob},lk h n=some ob->(n,ob)∈h
 | [],n,ob,h=>by simp [bD] at h
 | (m,o)::h,n,ob,hh=>by
  rw [aa] at hh
  split at hh
  .rename_i e
   injection hh with hh;subst hh;subst e;simp
  .exact List.mem_cons_of_mem _ (kX hh)
theorem Hp.eF {q:Nat->Bool}{h:Hp}(hq:h.ok q=true){n:Nat}{ob:Ob}(hl:lk h n=some ob):q n=true/\ob.ok q=true:=by
 have:=List.all_eq_true.1 hq _ (kX hl)
 simpa using this
theorem AI {ρ:Nat->Nat}{h:Hp}{q:Nat->Bool}(hq:h.ok q=true)(hinj:∀ n m,q n=true->q m=true->ρ n=ρ m->n=m){n:Nat}(hn:q n=true):lk (h.aA ρ) (ρ n)=(lk h n).map (Ob.aA ρ):=by
 induction h with
 | nil=>rfl
 | cons x h ih=>
  obtain ⟨m,o⟩:=x;simp only [Hp.ok,List.all_cons,Bool.and_eq_true] at hq;simp only [Hp.aA,List.map_cons];rw [aa,aa]
  by_cases e:n=m
  .subst e;simp
  .rw [if_neg e,if_neg (λ h=>e (hinj n m hn hq.1.1 h))]
   exact ih (by simpa [Hp.ok] using hq.2)
theorem tw {ρ:Nat->Nat}{h:Hp}{m:Nat}{ob:Ob}(hl:lk (h.aA ρ) m=some ob):∃ n kC,(n,kC)∈h/\m=ρ n/\ob=kC.aA ρ:=by
 obtain ⟨⟨n,kC⟩,h1,h2⟩:=List.mem_map.1 (kX hl);simp at h2;exact ⟨n,kC,h1,h2.1.symm,h2.2.symm⟩
def SB (P:Program)(f:FuncId)(args:List SV)(F:Hp)(k nk:Nat)(Q:SV->Hp->Prop):Prop:=
 jQ P f=true/\SV.ay (λ n=>decide (n<k)) args=true/\F.ok (λ n=>decide (n<k))=true/\
 ∀ (μ:Nat->Nm) (M:Mem) (w:World) (vals:Array Value),aX (· <k) μ M args vals.toList->bQ (· <k) μ M (lk F) w->
  Calls P f vals w λ e w'=>∃ r F' bn M' u,e= .returned u/\Q r F'/\r.ok (λ n=>decide (n<k+nk))=true/\F'.ok (λ n=>decide (n<k+nk))=true/\di bn M' r u/\bQ (· <k+nk) bn M' (lk F') w'/\
   Ev (lk F) (λ n=>k<=n/\n<k+nk) μ M w (lk F') bn M' w'
theorem BM {args:List SV}{F:Hp}{k nk:Nat}{Q:SV->Hp->Prop}(hao:SV.ay (λ n=>decide (n<k)) args=true)(DZ:F.ok (λ n=>decide (n<k))=true)(ρ:Nat->Nat)(k':Nat)(hinj:∀ n m,n<k->m<k->ρ n=ρ m->n=m)
    (hnew:∀ i,i<nk->ρ (k+i)=k'+i) {p:Nat->Prop} {μ:Nat->Nm} {M:Mem} {w:World} {vals:Array Value} (hp:∀ n,(k'<=n/\n<k'+nk)-> ¬ p n) (hpk:∀ n,n<k->p (ρ n)) (hr:aX p μ M (SV.aQ ρ args) vals.toList) (hS:bQ p μ M (lk (F.aA ρ)) w):
    aX (· <k) (λ n=>μ (ρ n)) M args vals.toList/\bQ (· <k) (λ n=>μ (ρ n)) M (lk F) w/\∀ e w',
      (∃ r F' bn M' u,e=Ending.returned u/\Q r F'/\r.ok (λ n=>decide (n<k+nk))=true/\F'.ok (λ n=>decide (n<k+nk))=true/\di bn M' r u/\bQ (· <k+nk) bn M' (lk F') w'/\
        Ev (lk F) (λ n=>k<=n/\n<k+nk) (λ n=>μ (ρ n)) M w (lk F') bn M' w')->
      ∃ r F' bn M' u,e=Ending.returned u/\(∃ r0 F0,Q r0 F0/\r=r0.aA ρ/\F'=F0.aA ρ)/\Rp (λ n=>p n\/(k'<=n/\n<k'+nk)) bn M' r u/\bQ (λ n=>p n\/(k'<=n/\n<k'+nk)) bn M' (lk F') w'/\
        Ev (lk (F.aA ρ)) (λ n=>k'<=n/\n<k'+nk) μ M w (lk F') bn M' w':=by
  have hq1:∀ n,decide (n<k)=true->n<k:=λ n h=>by simpa using h
  have hlt:∀ n m,n<k->k<=m->m<k+nk->ρ n≠ρ m:=λ n m hn hm hm' e=>by
    have h1:=hnew (m - k) (by omega);rw [show k+(m - k)=m by omega] at h1;exact hp (ρ n) (by rw [e,h1];omega) (hpk n hn)
  have hin:∀ n m,n<k+nk->m<k+nk->ρ n=ρ m->n=m:=λ n m hn hm e=>by
    by_cases h1:n<k <;> by_cases h2:m<k
    . exact hinj n m h1 h2 e
    . exact absurd e (hlt n m h1 (by omega) hm)
    . exact absurd e.symm (hlt m n h2 (by omega) hn)
    . have a1:=hnew (n - k) (by omega)
      have a2:=hnew (m - k) (by omega);rw [show k+(n - k)=n by omega] at a1;rw [show k+(m - k)=m by omega] at a2;omega
  have hr':aX (· <k) (λ n=>μ (ρ n)) M args vals.toList:=aX.to hao hq1 (λ n _=>rfl) hr.vS;have hF:∀ n,n<k->lk (F.aA ρ) (ρ n)=(lk F n).map (Ob.aA ρ):=λ n hn=>AI DZ (λ a b ha hb=>hinj a b (hq1 a ha) (hq1 b hb)) (by simpa using hn)
  have hFlt:∀ n,lk F n≠none->n<k:=λ n hn=>by
    obtain ⟨ob,bz⟩:=Option.ne_none_iff_exists'.1 hn;exact hq1 n (Hp.eF DZ bz).1
  have tI:bQ (· <k) (λ n=>μ (ρ n)) M (lk F) w:=by
    refine ⟨hS.mem,λ n ob hn=> ?_,λ n m hn hm ln lm e=> ?_⟩
    . obtain ⟨q1,q2⟩:=Hp.eF DZ hn
      have hnk:=hq1 n q1;have:=hF n hnk;rw [hn] at this;obtain ⟨_,b1,b2⟩:=hS.obs (ρ n) (ob.aA ρ) this;exact ⟨hnk,b1.to q2 hq1 (λ n _=>rfl),b2⟩
    . have h1:=hFlt n hn
      have h2:=hFlt m hm;refine hinj n m h1 h2 (hS.inj (ρ n) (ρ m) ?_ ?_ ln lm e)
      . rw [hF n h1];simpa using hn
      . rw [hF m h2];simpa using hm
  refine ⟨hr',tI,?_⟩;rintro e w' ⟨r,F',bn,M',u,rfl,hQ,hro,hFo',hru,hS2,hE⟩;have hq2:∀ n,decide (n<k+nk)=true->n<k+nk:=λ n h=>by simpa using h
  -- the caller's reading of the new names
  let μx:Nat->Nm:=λ m=>if k'<=m/\m<k'+nk then bn (k+(m - k')) else μ m
  have hx:∀ n,n<k+nk->μx (ρ n)=bn n:=λ n hn=>by
    by_cases h1:n<k
    . have: ¬ (k'<=ρ n/\ρ n<k'+nk):=λ hh=>hp (ρ n) hh (hpk n h1)
      simp only [μx,this,if_false];exact (hE.old n (by omega)).symm
    . have a1:=hnew (n - k) (by omega)
      rw [show k+(n - k)=n by omega] at a1;simp only [μx];rw [a1,if_pos (by omega)]
      congr 1
      omega
  have hpx:∀ n,n<k+nk->(p (ρ n)\/(k'<=ρ n/\ρ n<k'+nk)):=λ n hn=>by
    by_cases h1:n<k
    . exact .inl (hpk n h1)
    . have a1:=hnew (n - k) (by omega)
      rw [show k+(n - k)=n by omega] at a1;exact .inr (by omega)
  have hF2:∀ n,n<k+nk->lk (F'.aA ρ) (ρ n)=(lk F' n).map (Ob.aA ρ):=λ n hn=>AI hFo' (λ a b ha hb=>hin a b (hq2 a ha) (hq2 b hb)) (by simpa using hn)
  have hlkF':∀ m ob,lk (F'.aA ρ) m=some ob->∃ n kC,n<k+nk/\m=ρ n/\ob=kC.aA ρ/\lk F' n=some kC/\kC.ok (λ n=>decide (n<k+nk))=true:=by
    intro m ob hm;obtain ⟨n,kC,h1,rfl,rfl⟩:=tw hm;have hn:n<k+nk:=by
      have:=List.all_eq_true.1 hFo' _ h1;simp at this;exact this.1
    rw [hF2 n hn] at hm;obtain ⟨HH,h2,h3⟩:=Option.map_eq_some_iff.1 hm;exact ⟨n,HH,hn,rfl,h3.symm,h2,(Hp.eF hFo' h2).2⟩
  refine ⟨r.aA ρ,F'.aA ρ,μx,M',u,rfl,⟨r,F',hQ,rfl,rfl⟩,Rp.back hro (λ n hn=>hpx n (hq2 n hn)) (λ n hn=>hx n (hq2 n hn)) hru,⟨hS2.mem,λ m ob hm=> ?_,λ a b ha hb la lb e=> ?_⟩,⟨λ m hm=> ?_,hE.mem,λ b hb hf=> ?_,hE.size,λ m hm=> ?_,hE.os,hE.tape,hE.output⟩⟩
  . obtain ⟨n,kC,hn,rfl,rfl,hl,hok⟩:=hlkF' m ob hm
    obtain ⟨_,b1,b2⟩:=hS2.obs n kC hl;rw [hx n hn];exact ⟨hpx n hn,b1.back hok (λ n hn=>hpx n (hq2 n hn)) (λ n hn=>hx n (hq2 n hn)),b2⟩
  . obtain ⟨oa,hoa⟩:=Option.ne_none_iff_exists'.1 ha
    obtain ⟨ob,bz⟩:=Option.ne_none_iff_exists'.1 hb;obtain ⟨n,_,hn,rfl,_,hl,_⟩:=hlkF' a oa hoa;obtain ⟨m,_,hm,rfl,_,hl',_⟩:=hlkF' b ob bz;rw [hx n hn] at e la;rw [hx m hm] at e lb;rw [hS2.inj n m (by rw [hl];simp) (by rw [hl'];simp) la lb e]
  . simp only [μx]
    rw [if_neg hm]
  . refine hE.frame b hb λ n hn=> ?_
    have h1:=hFlt n hn;exact hf (ρ n) (by rw [hF n h1];simpa using hn)
  . obtain ⟨ob,bz⟩:=Option.ne_none_iff_exists'.1 hm
    obtain ⟨n,_,hn,rfl,_,hl,_⟩:=hlkF' m ob bz;rw [hx n hn];rcases hE.names n (by rw [hl];simp) with ⟨⟨h1,h2⟩,h3⟩ | ⟨h1,h2⟩
    . have a1:=hnew (n - k) (by omega)
      rw [show k+(n - k)=n by omega] at a1;refine .inl ⟨by omega,λ ln=> ?_⟩;rcases h3 ln with h3 | ⟨q,hq,lq,e⟩
      . exact .inl h3
      . have Mv:=hFlt q hq
        exact .inr ⟨ρ q,by rw [hF q Mv];simpa using hq,lq,e⟩
    . have h3:=hFlt n h2
      refine .inr ⟨λ hh=>hp (ρ n) hh (hpk n h3),by rw [hF n h3];simpa using h2⟩
theorem SB.at {P:Program}{f:FuncId}{args:List SV}{F:Hp}{k nk:Nat}{Q:SV->Hp->Prop}(h:SB P f args F k nk Q)(ρ:Nat->Nat)(k':Nat)(hinj:∀ n m,n<k->m<k->ρ n=ρ m->n=m)
  (hargs:∀ n,n<k->∀ (p:Nat->Prop) μ M w vals,aX p μ M (SV.aQ ρ args) vals->bQ p μ M (lk (F.aA ρ)) w->p (ρ n)) (hnew:∀ i,i<nk->ρ (k+i)=k'+i):
  SC P f (SV.aQ ρ args) (F.aA ρ) k' nk λ r F'=>∃ r0 F0,Q r0 F0/\r=r0.aA ρ/\F'=F0.aA ρ:=by
 refine ⟨h.1,λ p μ M w vals hp hr hS=> ?_⟩;obtain ⟨h1,h2,h3⟩:=BM (Q:=Q) h.2.1 h.2.2.1 ρ k' hinj hnew hp (λ n hn=>hargs n hn p μ M w _ hr hS) hr hS;exact (h.2.2.2 _ M w vals h1 h2).mono h3
def D0 (P:Program)(nl:Nat)(args:List SV)(F:Hp)(k nk:Nat)(Q:SV->Hp->Prop):Prop:=
 SV.ay (λ n=>decide (n<k)) args=true/\F.ok (λ n=>decide (n<k))=true/\
 ∀ (μ:Nat->Nm) (M:Mem) (w:World) (vals:Array Value),aX (· <k) μ M args vals.toList->bQ (· <k) μ M (lk F) w->
  Ek P (μ nl).blk vals w λ e w'=>∃ r F' bn M' u,e= .returned u/\Q r F'/\r.ok (λ n=>decide (n<k+nk))=true/\F'.ok (λ n=>decide (n<k+nk))=true/\di bn M' r u/\bQ (· <k+nk) bn M' (lk F') w'/\
   Ev (lk F) (λ n=>k<=n/\n<k+nk) μ M w (lk F') bn M' w'
end
section
def kE:Obj->Bool
 | .deferred _=>true
 | _=>false
def Marks (w0 w:World):List Deferred->Prop
 | []=>True
 | d::ds=>(∃ r,d=⟨.collected r,#[]⟩/\w0.heap.size<=r/\w.heap[r]? =some (.deferred (some []))/\∀ d',d'∈ds->d'≠⟨.collected r,#[]⟩)/\Marks w0 w ds
theorem bQ.not {p:Nat->Prop}{μ:Nat->Nm}{M:Mem}{c:Nat->Option Ob}{w:World}(hS:bQ p μ M c w){b:Nat}{x:Obj}(hx:w.heap[b]? =some x)(hf:kE x=true):∀ n,c n≠none->(μ n).live=true->(μ n).blk≠b:=by
 intro n hn hl e;obtain ⟨ob,ho⟩:=Option.ne_none_iff_exists'.1 hn;have h:=(hS.obs n ob ho).2.1;subst e;cases ob <;> simp only [cB] at h
 .obtain ⟨_,_,h,_⟩:=h;rw [hx] at h;injection h with h;subst h;simp [kE] at hf
 .rcases h with ⟨h,_⟩ | ⟨_,_,h,_⟩
  .rw [hl] at h;cases h
  .rw [hx] at h;injection h with h;subst h;simp [kE] at hf
 .obtain ⟨_,_,h,_⟩:=h;rw [hx] at h;injection h with h;subst h;simp [kE] at hf
 .rw [hl] at h;cases h
 .obtain ⟨_,_,h⟩:=h;rw [hx] at h;injection h with h;subst h;simp [kE] at hf
 .obtain ⟨_,_,h,_⟩:=h;rw [hx] at h;injection h with h;subst h;simp [kE] at hf
theorem Ev.keeps {c c':Nat->Option Ob}{new p:Nat->Prop}{μ bn:Nat->Nm}{M M':Mem}{w w':World}(hE:Ev c new μ M w c' bn M' w')(hS:bQ p μ M c w){b:Nat}{x:Obj}(hx:w.heap[b]? =some x)(hf:kE x=true):w'.heap[b]? =some x:=by
 rw [(hE.frame b (Array.getElem?_eq_some_iff.1 hx).1 (hS.not hx hf)).1];exact hx
theorem Marks.ev {c c':Nat->Option Ob}{new p:Nat->Prop}{μ bn:Nat->Nm}{M M':Mem}{w0 w w':World}:∀ {df:List Deferred},Marks w0 w df->bQ p μ M c w->Ev c new μ M w c' bn M' w'->Marks w0 w' df
 | [],_,_,_=>trivial
 | d::ds,⟨⟨r,h1,h2,h3,h4⟩,h5⟩,hS,hE=>⟨⟨r,h1,h2,hE.keeps hS h3 rfl,h4⟩,Marks.ev h5 hS hE⟩
def iJ (N:Nat)(cR:Nat->Nm)(M0:Mem)(w0:World)(c0:Nat->Option Ob)(k0:Nat)(st:St)(a:Act)(w:World):Prop:=
 k0<=st.k/\Marks w0 w a.defers/\a.tmps.size=N/\
 ∃ μ M,(∀ t s,st.env.lookup t=some s->Rp (· <st.k) μ M s (a.tmps.getD t undef))/\bQ (· <st.k) μ M (lk st.hp) w/\
  Ev c0 (λ n=>k0<=n/\n<st.k) cR M0 w0 (lk st.hp) μ M w
def KC:mG:=⟨.any,[],[],0,True⟩
section
variable {P:Program}
theorem gJ {ops:Array Oper}{o:Oper}{si:SI}(h:ql P ops o=some si):cO P o.op=some si.op/\si.dst=o.dst/\((o.guard=none/\si.g=none)\/∃ j w t,o.guard=some (j,w)/\gz ops j=some t/\si.g=some (t,w)):=by
 unfold ql at h
 split at h <;> try (cases h;done)
 rename_i so hso
 split at h
 .rename_i hg
  injection h with h;subst h;exact ⟨hso,rfl,.inl ⟨hg,rfl⟩⟩
 .rename_i j w hg
  split at h <;> try (cases h;done)
  rename_i t ht;injection h with h;subst h;exact ⟨hso,rfl,.inr ⟨j,w,t,hg,ht,rfl⟩⟩
theorem qB {ops:Array Oper}{o:Oper}{st:St}{si:SI}{c1 c2:List CR}{e:mG}(hc:ql P ops o=some si)(h:gd P st si c1=some (e,c2))(bz:e.ob):
  sy P ops (λ t=>st.env.lookup t) (lk st.hp) st.k o e/\(dx si.op=true->e.F'=e.F)/\HSub e.F st.hp:=by
 obtain ⟨h1,h2,h3⟩:=gJ hc;unfold gd at h;rcases h3 with ⟨hg,hs⟩ | ⟨j,w,t,hg,ht,hs⟩
 .simp only [hs] at h
  obtain ⟨a1,a2⟩:=uJ (ops:=ops) h1 h bz;exact ⟨.inr ⟨.inl hg,a1⟩,a2,a1.2⟩
 .simp only [hs] at h
  split at h <;> try (cases h;done)
  .rename_i b hb
   split at h
   .rename_i hbw
    have hbw:b=w:=by simpa using hbw
    subst hbw;obtain ⟨a1,a2⟩:=uJ (ops:=ops) h1 h bz;exact ⟨.inr ⟨.inr ⟨j,b,t,hg,ht,hb⟩,a1⟩,a2,a1.2⟩
   .rename_i hbw
    injection h with h;injection h with h h';subst h;exact ⟨.inl ⟨j,w,t,_,hg,ht,hb,by simpa [mP] using hbw,rfl,rfl,rfl,rfl⟩,λ _=>rfl,λ n ob hn=>by simp [bD] at hn⟩
  .rename_i hb
   injection h with h;injection h with h h';subst h;exact ⟨.inl ⟨j,w,t,_,hg,ht,hb,rfl,rfl,rfl,rfl,rfl⟩,λ _=>rfl,λ n ob hn=>by simp [bD] at hn⟩
theorem zh:∀ (de:List SI) (st:St) (es:List mG) (i:Nat),es.length<=i->jR de st es (i+1)=jR de st es i
 | [],st,es,i,_=>by simp [jR]
 | si::r,st,[],i,_=>by simp [jR]
 | si::r,st,e::es,0,h=>by simp at h
 | si::r,st,e::es,i+1,h=>by
  simp only [jR];exact zh r _ es i (by simpa using h)
theorem zi {id:Nat}{ops:Array Oper}{draw:Bool}{N:Nat}{de:List SI}{bs:List Nat}{st st':St}{dG:List CR}{ob:Prop}{ts:List (Bool×List Nat)}
    (hc:El P N ops draw=some (de,bs)) (hrun:runs P de st dG=some (st',ob,ts)) (bz:ob) (Eo:draw=true->mA bs ts=true) (hm:P.follows .mixedOrders=true)
    {cR:Nat->Nm} {M0:Mem} {w0:World} {c0:Nat->Option Ob} {k0:Nat} {rd:Option Nat} {a:Act} {w:World} (fO:iJ N cR M0 w0 c0 k0 st a w) {Q:Exit->Act->World->Prop}
    (hQ:∀ a' w',iJ N cR M0 w0 c0 k0 st' a' w'->Q .normal a' w'):(Code.region id ops draw).wpIn (jO rd) 0 P Q a w:=by
  obtain ⟨og,hdf,hsz,μ,M,gD,hS,hE⟩:=fO;unfold El at hc
  split at hc <;> try (cases hc;done)
  rename_i sis' hsis
  split at hc <;> try (cases hc;done)
  rename_i hchk;injection hc with hc;injection hc with hc1 Hz;subst hc1;rw [Hz] at hchk;simp only [Bool.and_eq_true] at hchk;obtain ⟨⟨hok,hslots⟩,hin⟩:=hchk;obtain ⟨hlen,kY⟩:=nL hsis;obtain ⟨tl,tts,tob,tst⟩:=qX hrun;have hes:=tob bz;generalize hesd:trace P sis' st dG=es at*;have hn:ops.size=sis'.length:=by simpa using hlen
  have facts:∀ i,i<ops.size->∃ o si e,ops[i]? =some o/\sis'[i]? =some si/\es[i]? =some e/\ql P ops o=some si/\sy P ops (λ t=>(jR sis' st es i).env.lookup t) (lk (jR sis' st es i).hp) (jR sis' st es i).k o e/\
      (dx si.op=true->e.F'=e.F)/\HSub e.F (jR sis' st es i).hp:=by
    intro i hi;obtain ⟨si,h1,h2⟩:=kY i ops[i] (by simp [hi]);have h3:es[i]? =some (es[i]'(by omega)):=List.getElem?_eq_getElem (by omega);obtain ⟨c1,c2,h4⟩:=uI (P:=P) (st:=st) (dG:=dG) h1 (by rw [hesd];exact h3);rw [hesd] at h4;obtain ⟨b1,b2,b3⟩:=qB h2 h4 (hes _ (List.getElem_mem _));exact ⟨ops[i],si,_,Array.getElem?_eq_getElem hi,h1,h3,h2,b1,b2,b3⟩
  let cU:Nat->mG:=λ i=>es.getD i KC
  let ro:Nat->Bool:=λ i=>((sis'[i]?).map λ s=>dx s.op).getD true
  let kk:Nat->Nat:=λ i=>(jR sis' st es i).k
  have heff:∀ {i e},es[i]? =some e->cU i=e:=λ h=>by simp [cU,List.getD_eq_getElem?_getD,h]
  have hro:∀ {i si},sis'[i]? =some si->ro i=dx si.op:=λ h=>by simp [ro,h]
  have hdst:∀ {i o},ops[i]? =some o->gz ops i=o.dst:=λ h=>by simp [gz,h]
  have hst0:jR sis' st es 0=st:=by cases sis' <;> cases es <;> rfl
  have hslotS:∀ i,i<=ops.size->∀ t,iA ops (λ t=>st.env.lookup t) cU (λ _=>true) i t=(jR sis' st es i).env.lookup t:=by
    intro i
    induction i with
    | zero=>intro _ t;rw [hst0];rfl
    | succ i ih=>
      intro hi t;obtain ⟨o,si,e,f1,f2,f3,f4,_⟩:=facts i (by omega);obtain ⟨_,g2,_⟩:=gJ f4;rw [o7 sis' st es i si e f2 f3];simp only [iA,pick,Bool.true_and,hdst f1,heff f3];have ih':=ih (by omega) t;simp only [iA] at ih';simp only [Bool.true_and] at ih';simp only [mz,g2];cases hod:o.dst with
      | none=>simpa using ih'
      | some d=>
        simp only;rw [nJ]
        by_cases hd:d=t
        . subst hd;simp
        . simp [hd,ih']
  have hcontS:∀ i,i<=ops.size->fE (lk st.hp) cU ro (λ _=>true) i=lk (jR sis' st es i).hp:=by
    intro i
    induction i with
    | zero=>intro _;rw [hst0];rfl
    | succ i ih=>
      intro hi;obtain ⟨o,si,e,f1,f2,f3,f4,_,f6,f7⟩:=facts i (by omega);rw [o7 sis' st es i si e f2 f3];simp only [mz];rw [h_ f7 f6]
      funext jg
      have ih':=congrFun (ih (by omega)) jg;simp only [fE,Bool.true_and] at ih';simp only [fE,pick,Bool.true_and,hro f2,heff f3];cases hr:dx si.op with
      | true=>
        rw [f6 hr];simp only [Bool.not_true,Bool.false_and,Bool.false_eq_true,if_false];rw [ih']
        by_cases h1:lk e.F jg=none
        . rw [dz h1 h1]
        . rw [eM (.inl h1)]
          obtain ⟨ob,bz⟩:=Option.ne_none_iff_exists'.1 h1;rw [bz];exact f7 jg ob bz
      | false=>
        have htc:jj cU i jg=((lk e.F jg).isSome || (lk e.F' jg).isSome):=by simp only [jj,heff f3]
        simp only [Bool.not_false,Bool.true_and,htc];unfold Ay
        split
        . rfl
        . exact ih'
  have hkS:∀ i,kk (i+1)=kk i+(cU i).nk:=by
    intro i
    by_cases hi:i<ops.size
    . obtain ⟨o,si,e,f1,f2,f3,_⟩:=facts i hi
      simp only [kk];rw [o7 sis' st es i si e f2 f3,heff f3];rfl
    . simp only [kk]
      rw [zh sis' st es i (by omega)];have:cU i=KC:=by simp [cU,List.getD_eq_getElem?_getD,List.getElem?_eq_none (show es.length<=i by omega)]
      rw [this];rfl
  have htouch:∀ i jg,i<ops.size->ro i=false\/True->jj cU i jg=true->jg∈(ts.getD i (true,[])).2:=by
    intro i jg hi _ ht;obtain ⟨o,si,e,f1,f2,f3,_⟩:=facts i hi;have:ts[i]? =some (ij si e):=by rw [tts];simp [List.getElem?_zipWith,f2,f3]
    rw [List.getD_eq_getElem?_getD,this];simp only [Option.getD_some,ij,List.mem_append,List.mem_map];simp only [jj,heff f3,Bool.or_eq_true,Option.isSome_iff_exists] at ht;rcases ht with ⟨ob,h⟩ | ⟨ob,h⟩
    . exact .inl ⟨(jg,ob),kX h,rfl⟩
    . exact .inr ⟨(jg,ob),kX h,rfl⟩
  have htro:∀ i,i<ops.size->(ts.getD i (true,[])).1=ro i:=by
    intro i hi;obtain ⟨o,si,e,f1,f2,f3,_⟩:=facts i hi;have:ts[i]? =some (ij si e):=by rw [tts];simp [List.getElem?_zipWith,f2,f3]
    rw [List.getD_eq_getElem?_getD,this,hro f2];rfl
  have hR :RG P ops bs N (λ t=>st.env.lookup t) (lk st.hp) st.k cU ro kk:=by
    refine ⟨hslots,λ i d hd=> ?_,by simp only [kk];rw [hst0],hkS,λ i j jg hi hj hij hri Hx htj=> ?_,λ i hi=> ?_⟩
    . have hi:i<ops.size:=by
        unfold gz at hd;rcases Nat.lt_or_ge i ops.size with h | h
        . exact h
        . rw [Array.getElem?_eq_none h] at hd;cases hd
      obtain ⟨o,si,e,f1,f2,f3,f4,_⟩:=facts i hi;obtain ⟨_,g2,_⟩:=gJ f4;rw [hdst f1] at hd;have:=List.all_eq_true.1 hin si (List.mem_of_getElem? f2);rw [g2,hd] at this
      simpa using this
    . cases hd:draw with
      | false=>
        rw [hd] at Hz;simp only [HX,Bool.false_eq_true,if_false] at Hz;rw [<- Hz];rcases Nat.lt_or_ge i j with h | h
        . exact .inl (wJ hj h)
        . exact .inr (wJ hi (by omega))
      | true=>
        have hnc:=Eo hd;unfold mA at hnc;have hl:ts.length=ops.size:=by rw [tts];simp;omega
        have:=oZ hnc (i:=i) (j:=j) (by omega) (by omega);simp only [Bool.or_eq_true,beq_iff_eq,hij,false_or,htro i hi,hri,Bool.not_eq_true',Bool.false_eq_true] at this;have hany:((ts.getD i (true,[])).2.any λ n=>(ts.getD j (true,[])).2.contains n)=true:=by
          refine List.any_eq_true.2 ⟨jg,htouch i jg hi (.inr trivial) Hx,?_⟩
          simpa using htouch j jg hj (.inr trivial) htj
        rw [hany] at this
        simpa using this
    . by_cases hii:i<ops.size
      . obtain ⟨o,si,e,f1,f2,f3,f4,_,f6,_⟩:=facts i hii
        rw [hro f2] at hi;rw [heff f3];exact f6 hi
      . have:cU i=KC:=by simp [cU,List.getD_eq_getElem?_getD,List.getElem?_eq_none (show es.length<=i by omega)]
        rw [this];rfl
  have hsteps:∀ (i:Nat) (o:Oper),ops[i]? =some o->sy P ops (iA ops (λ t=>st.env.lookup t) cU (λ _=>true) i) (fE (lk st.hp) cU ro (λ _=>true) i) (kk i) o (cU i):=by
    intro i o ho;have hi:i<ops.size:=(Array.getElem?_eq_some_iff.1 ho).1;obtain ⟨o',si,e,f1,f2,f3,f4,f5,_⟩:=facts i hi;rw [f1] at ho;injection ho with ho;subst ho;rw [heff f3,hcontS i (by omega),show iA ops (λ t=>st.env.lookup t) cU (λ _=>true) i=λ t=>(jR sis' st es i).env.lookup t from funext λ t=>hslotS i (by omega) t];exact f5
  have hend:st'=jR sis' st es ops.size:=by rw [tst,hn]
  have hmono:∀ i,st.k<=kk i:=λ i=>by
    have:=hR.mono (Nat.zero_le i);rw [hR.N2] at this;exact this
  have hfinal :∀ a' w',Inv ops N (λ t=>st.env.lookup t) (lk st.hp) st.k cU ro kk μ M w a.defers (λ _=>true) a' w'->Q .normal a' w':=by
    intro a' w' hI;obtain ⟨⟨bn,M',h1,h2,h3⟩,h4,h5⟩:=hI;have hp : pD ops st.k cU kk (λ _=>true)=(· <st'.k):=by
      funext n
      apply propext;rw [hend];have key:∀ i,i<=ops.size->∀ n,(n<st.k\/∃ j,j<i/\kk j<=n/\n<kk j+(cU j).nk)↔n<kk i:=by
        intro i
        induction i with
        | zero=>intro _ n;rw [hR.N2];exact ⟨λ h=>h.elim (λ h=>h) λ ⟨j,hj,_⟩=>by omega,.inl⟩
        | succ i ih=>
          intro hi n;have:=ih (by omega) n;rw [hkS];constructor
          . rintro (h | ⟨j,hj,h1,h2⟩)
            . have:=this.1 (.inl h);omega
            . by_cases hji:j=i
              . subst hji;exact h2
              . have:=this.1 (.inr ⟨j,by omega,h1,h2⟩);omega
          . intro h
            by_cases hlt:n<kk i
            . rcases this.2 hlt with h | ⟨j,hj,h1,h2⟩
              . exact .inl h
              . exact .inr ⟨j,by omega,h1,h2⟩
            . exact .inr ⟨i,by omega,by omega,h⟩
      have:=key ops.size (Nat.le_refl _) n;unfold pD tO
      simpa using this
    have hnw:∀ n,tO ops cU kk (λ _=>true) n↔st.k<=n/\n<st'.k:=by
      intro n;have:=congrFun hp n;constructor
      . rintro ⟨j,hj,h1,h2,h3⟩
        refine ⟨Nat.le_trans (hmono j) h2,?_⟩;have h':pD ops st.k cU kk (λ _=>true) n:= .inr ⟨j,hj,h1,h2,h3⟩;rw [hp] at h';exact h'
      . rintro ⟨h1,h2⟩
        have h':pD ops st.k cU kk (λ _=>true) n:=by rw [hp];exact h2
        rcases h' with h' | h'
        . omega
        . exact h'
    rw [hp] at h1 h2;rw [hcontS ops.size (Nat.le_refl _),<- hend] at h2 h3;have hk':st.k<=st'.k:=by rw [hend];exact hmono _
    refine hQ a' w' ⟨by omega,by rw [h4];exact hdf.ev hS h3,h5,bn,M',λ t s h=>h1 t s ?_,h2,(hE.trans h3).tV λ n=> ?_⟩
    . rw [hslotS ops.size (Nat.le_refl _),<- hend];exact h
    . rw [hnw];omega
  have hinit:∀ w1:World,bQ (· <st.k) μ M (lk st.hp) w1->Ev (lk st.hp) (λ _=>False) μ M w (lk st.hp) μ M w1->Inv ops N (λ t=>st.env.lookup t) (lk st.hp) st.k cU ro kk μ M w a.defers (λ _=>false) a w1:=by
    intro w1 vP qi;have hp:pD ops st.k cU kk (λ _=>false)=(· <st.k):=by
      funext n;apply propext
      unfold pD tO;simp
    have hc0:fE (lk st.hp) cU ro (λ _=>false) ops.size=lk st.hp:=funext λ jg=>su λ i _=>by simp
    refine ⟨⟨μ,M,λ t s h=> ?_,by rw [hp,hc0];exact vP,by rw [hc0];exact qi.tV λ n=>by unfold tO;simp⟩,rfl,hsz⟩;rw [hp];refine gD t s ?_;rw [<- h];exact (su λ i _=>by simp).symm
  cases hd:draw with
  | false=>
    refine wpIn_region ?_;rw [List.range_eq_range'];exact hR.HW hsteps hfinal ops.size 0 a w (by omega) ((hinit w hS (Ev.refl _ _ _ _ _ λ _ _ h=>h)).congr λ j _=>by simp)
  | true=>
    rw [hd] at hok;simp only [Bool.not_true,Bool.false_or] at hok;refine wpIn_region_any hm ?_;refine hR.drawn hok hsteps hfinal ops.size _ a _ (by simp) ?_ (λ j o h=> ?_) ((hinit w.drew hS.drew (Ev.refl _ _ _ _ _ λ _ _ h=>h).drew).congr λ j hj=>by simp [hj])
    . have:∀ n,n<=ops.size->iI (Array.replicate ops.size false) n=n:=by
        intro n
        induction n with
        | zero=>intro _;rfl
        | succ n ih=>intro hn';simp only [iI,ih (by omega)];simp [show n<ops.size by omega]
      exact this _ (Nat.le_refl _)
    . exfalso
      by_cases hj:j<ops.size
      . simp [hj] at h
      . simp [hj] at h
end
end
section
inductive cu where
 | skip
 | e_ (de:List SI) (bs:List Nat) (draw:Bool)
 | seq (a b:cu)
 | cond (x:X) (a b:cu)
 | block (id:Nat) (c:cu)
 | loop (c:cu)
 | exit (id:Nat)
 | ret
 | qZ (g:X) (ps:List Nat) (assign body:cu)
def cu.rf:cu->Bool
 | .qZ .. =>true
 | .seq a b | .cond _ a b=>a.rf || b.rf
 | .block _ a | .loop a=>a.rf
 | _=>false
def cK (P:Program)(N:Nat):Code->Option cu
 | .skip=>some .skip
 | .region _ ops draw=>match El P N ops draw with
  | some (de,bs)=>some (.e_ de bs draw)
  | none=>none
 | .seq a b=>match cK P N a,cK P N b with
  | some a,some b=>some (.seq a b)
  | _,_=>none
 | .cond x a b=>match cX x,cK P N a,cK P N b with
  | some x,some a,some b=>some (.cond x a b)
  | _,_,_=>none
 | .block id c=>(cK P N c).map (.block id)
 | .loop c=>(cK P N c).map .loop
 | .exit id=>some (.exit id)
 | .ret=>some .ret
 | .rangeFunc g ps a b=>match cX g,cK P N a,cK P N b with
  | some g,some a,some b=>some (.qZ g ps.toList a b)
  | _,_,_=>none
 | _=>none
def SW (P:Program)(N k0:Nat)(s:cu)(st:St)(Q:Exit->St->Prop):Prop:=
 ∀ c,cK P N c=some s->∀ rd,(s.rf=true->rd=none)->∀ cR M0 w0 c0 a w,iJ N cR M0 w0 c0 k0 st a w->c.wpIn (jO rd) 0 P (λ e a' w'=>∃ st',Q e st'/\iJ N cR M0 w0 c0 k0 st' a' w') a w
section
variable {P:Program} {N k0:Nat} {st:St} {Q:Exit->St->Prop}
theorem SW.mono {s:cu}{Q':Exit->St->Prop}(h:SW P N k0 s st Q)(hq:∀ e st',Q e st'->Q' e st'):SW P N k0 s st Q':=
 λ c hc rd hrf cR M0 w0 c0 a w fO=>wpIn_mono (h c hc rd hrf cR M0 w0 c0 a w fO) λ e a' w' ⟨st',h1,h2⟩=>⟨st',hq e st' h1,h2⟩
theorem SW.skip (h:Q .normal st):SW P N k0 .skip st Q:=by
 intro c hc rd hrf cR M0 w0 c0 a w fO;cases c <;> simp only [cK] at hc <;> first
  | (cases hc;done)
  | exact wpIn_skip ⟨st,h,fO⟩
  | (exfalso;split at hc <;> cases hc;done)
  | (exfalso;obtain ⟨_,_,hh⟩:=Option.map_eq_some_iff.1 hc;cases hh;done)
theorem SW.exit {id:Nat}(h:Q (.exit id) st):SW P N k0 (.exit id) st Q:=by
 intro c hc rd hrf cR M0 w0 c0 a w fO;cases c <;> simp only [cK] at hc <;> first
  | (cases hc;done)
  | (injection hc with hc;injection hc with hc;subst hc;exact wpIn_exit ⟨st,h,fO⟩)
  | (exfalso;split at hc <;> cases hc;done)
  | (exfalso;obtain ⟨_,_,hh⟩:=Option.map_eq_some_iff.1 hc;cases hh;done)
theorem SW.ret (h:Q .ret st):SW P N k0 .ret st Q:=by
 intro c hc rd hrf cR M0 w0 c0 a w fO;cases c <;> simp only [cK] at hc <;> first
  | (cases hc;done)
  | exact wpIn_ret ⟨st,h,fO⟩
  | (exfalso;split at hc <;> cases hc;done)
  | (exfalso;obtain ⟨_,_,hh⟩:=Option.map_eq_some_iff.1 hc;cases hh;done)
theorem SW.e_ {de:List SI}{bs:List Nat}{draw:Bool}(dG:List CR){st':St}{ob:Prop}{ts:List (Bool×List Nat)}(hm:P.follows .mixedOrders=true)(hrun:runs P de st dG=some (st',ob,ts))(bz:ob)
  (Eo:(!draw || mA bs ts)=true) (h:Q .normal st'):SW P N k0 (.e_ de bs draw) st Q:=by
 intro c hc rd hrf cR M0 w0 c0 a w fO;cases c <;> simp only [cK] at hc <;> first
  | (cases hc;done)
  | (exfalso;obtain ⟨_,_,hh⟩:=Option.map_eq_some_iff.1 hc;cases hh;done)
  | skip
 case region id ops dr=>
  split at hc <;> try (cases hc;done)
  rename_i sis' bs' hR;injection hc with hc;injection hc with e1 e2 e3;subst e1;subst e2;subst e3;exact zi hR hrun bz (λ hd=>by simpa [hd] using Eo) hm fO λ a' w' hSt'=>⟨st',h,hSt'⟩
 all_goals (exfalso;split at hc <;> cases hc)
theorem SW.seq {x y:cu}(h:SW P N k0 x st λ e st'=>match e with | .normal=>SW P N k0 y st' Q | e=>Q e st'):SW P N k0 (.seq x y) st Q:=by
 intro c hc rd hrf cR M0 w0 c0 a w fO;cases c <;> simp only [cK] at hc <;> first
  | (cases hc;done)
  | (exfalso;obtain ⟨_,_,hh⟩:=Option.map_eq_some_iff.1 hc;cases hh;done)
  | skip
 case seq cx cy=>
  split at hc <;> try (cases hc;done)
  rename_i x' y' hx hy;injection hc with hc;injection hc with e1 e2;subst e1;subst e2;refine wpIn_seq (wpIn_mono (h cx hx rd (λ e=>hrf (by simp [cu.rf,e])) cR M0 w0 c0 a w fO) λ e a' w' ⟨st',h1,h2⟩=> ?_);cases e <;> first
   | exact h1 cy hy rd (λ e=>hrf (by simp [cu.rf,e])) cR M0 w0 c0 a' w' h2
   | exact ⟨st',h1,h2⟩
 all_goals (exfalso;split at hc <;> cases hc)
theorem SW.block {id:Nat}{x:cu}(h:SW P N k0 x st λ e st'=>match e with | .exit id'=>if id'=id then Q .normal st' else Q (.exit id') st' | e=>Q e st'):SW P N k0 (.block id x) st Q:=by
 intro c hc rd hrf cR M0 w0 c0 a w fO;cases c <;> simp only [cK] at hc <;> first
  | (cases hc;done)
  | (exfalso;split at hc <;> cases hc;done)
  | skip
 case block id' cx=>
  obtain ⟨x',hx,e1⟩:=Option.map_eq_some_iff.1 hc;injection e1 with e1 e2;subst e1;subst e2;refine wpIn_block (wpIn_mono (h cx hx rd (λ e=>hrf (by simp [cu.rf,e])) cR M0 w0 c0 a w fO) λ e a' w' ⟨st',h1,h2⟩=> ?_);cases e <;> try exact ⟨st',h1,h2⟩
  rename_i i;simp only [Exit.inBlock] at h1 ⊢
  split
  .rename_i e1;rw [if_pos e1] at h1;exact ⟨st',h1,h2⟩
  .rename_i e1;rw [if_neg e1] at h1;exact ⟨st',h1,h2⟩
 all_goals (exfalso;obtain ⟨_,_,hh⟩:=Option.map_eq_some_iff.1 hc;cases hh)
theorem SW.cond {x:X}{y z:cu}{b:Bool}(hx:ev (λ t=>st.env.lookup t) x=some (.d (.bool b)))(h1:b=true->SW P N k0 y st Q)(h2:b=false->SW P N k0 z st Q):SW P N k0 (.cond x y z) st Q:=by
 intro c hc rd hrf cR M0 w0 c0 a w fO;cases c <;> simp only [cK] at hc <;> first
  | (cases hc;done)
  | (exfalso;obtain ⟨_,_,hh⟩:=Option.map_eq_some_iff.1 hc;cases hh;done)
  | skip
 case cond o cy cz=>
  split at hc <;> try (cases hc;done)
  rename_i x' y' z' hx' hy hz;injection hc with hc;injection hc with e1 e2 e3;subst e1;subst e2;subst e3;obtain ⟨og,hdf,hsz,μ,M,gD,hS,hE⟩:=fO;have hk:iy (λ t=>st.env.lookup t) #[o] (· <st.k) μ M a:=⟨λ t _ s hs=>gD t s hs,hS.mem.mc⟩;have hb:=Rp.bE.1 (hk.get (by simp) hx' hx);exact wpIn_cond_split hb (λ e=>h1 e cy hy rd (λ e=>hrf (by simp [cu.rf,e])) cR M0 w0 c0 a w ⟨og,hdf,hsz,μ,M,gD,hS,hE⟩) (λ e=>h2 e cz hz rd (λ e=>hrf (by simp [cu.rf,e])) cR M0 w0 c0 a w ⟨og,hdf,hsz,μ,M,gD,hS,hE⟩)
 all_goals (exfalso;split at hc <;> cases hc)
def aL (ρ:Nat->Nat)(k:Nat)(env:List (Nat×SV)):List (Nat×SV)->Prop
 | []=>True
 | (t,s)::r=>env.lookup t=some (s.aA ρ)/\s.ok (λ n=>decide (n<k))=true/\aL ρ k env r
def uK (ρ:Nat->Nat)(k:Nat)(hp:Hp):Hp->Prop
 | []=>True
 | (n,ob)::r=>lk hp (ρ n)=some (ob.aA ρ)/\n<k/\ob.ok (λ n=>decide (n<k))=true/\uK ρ k hp r
def Ep (ρ:Nat->Nat)(h:Hp):Prop:=∀ n,n∈h.map (·.1)->∀ m,m∈h.map (·.1)->ρ n=ρ m->n=m
def aI (k0:Nat)(st st1:St)(ρ:Nat->Nat):Prop:=
 k0<=st1.k/\(∀ n,n<k0->ρ n=n)/\aL ρ st1.k st.env st1.env/\uK ρ st1.k st.hp st1.hp/\Ep ρ st1.hp
theorem aL.get {ρ:Nat->Nat}{k:Nat}{env:List (Nat×SV)}:∀ {q_:List (Nat×SV)},aL ρ k env q_->∀ t s,q_.lookup t=some s->env.lookup t=some (s.aA ρ)/\s.ok (λ n=>decide (n<k))=true
 | [],_,t,s,h=>by simp at h
 | (t',s')::r,hw,t,s,h=>by
  simp only [aL] at hw;simp only [List.lookup] at h
  split at h
  .rename_i e
   have e:t=t':=by simpa using e
   injection h with h;subst h;subst e;exact ⟨hw.1,hw.2.1⟩
  .exact aL.get hw.2.2 t s h
theorem uK.get {ρ:Nat->Nat}{k:Nat}{hp:Hp}:∀ {hp1:Hp},uK ρ k hp hp1->∀ n ob,lk hp1 n=some ob->lk hp (ρ n)=some (ob.aA ρ)/\n<k/\ob.ok (λ n=>decide (n<k))=true
 | [],_,n,ob,h=>by simp [bD] at h
 | (n',kC)::r,hw,n,ob,h=>by
  simp only [uK] at hw;rw [aa] at h
  split at h
  .rename_i e
   injection h with h;subst h;subst e;exact ⟨hw.1,hw.2.1,hw.2.2.1⟩
  .exact uK.get hw.2.2.2 n ob h
theorem BN {h:Hp}{n:Nat}(hn:lk h n≠none):n∈h.map (·.1):=by
 obtain ⟨ob,ho⟩:=Option.ne_none_iff_exists'.1 hn;exact List.mem_map.2 ⟨(n,ob),kX ho,rfl⟩
theorem iJ.weak {cR:Nat->Nm}{M0:Mem}{w0:World}{c0:Nat->Option Ob}{st1:St}{ρ:Nat->Nat}{a:Act}{w:World}(h:iJ N cR M0 w0 c0 k0 st a w)(hw:aI k0 st st1 ρ):iJ N cR M0 w0 c0 k0 st1 a w:=by
  obtain ⟨og,hdf,hsz,μ,M,gD,hS,hE⟩:=h;obtain ⟨h1,h2,h3,h4,h5⟩:=hw
  let ν:Nat->Nm:=λ n=>if n<st1.k then μ (ρ n) else cR n
  have iw:∀ n,n<st1.k->ν n=μ (ρ n):=λ n hn=>by simp [ν,hn]
  have hν':∀ n,decide (n<st1.k)=true->ν n=μ (ρ n):=λ n hn=>iw n (by simpa using hn)
  have hq:∀ n,decide (n<st1.k)=true->n<st1.k:=λ n hn=>by simpa using hn
  refine ⟨h1,hdf,hsz,ν,M,λ t s hs=> ?_,⟨hS.mem,λ n ob hn=> ?_,λ n m hn hm ln lm e=> ?_⟩,⟨λ n hn=> ?_,hE.mem,hE.frame,hE.size,λ n hn=> ?_,hE.os,hE.tape,hE.output⟩⟩
  . obtain ⟨a1,a2⟩:=h3.get t s hs
    exact Rp.to a2 hq hν' (gD t _ a1).rep
  . obtain ⟨a1,a2,a3⟩:=h4.get n ob hn
    obtain ⟨_,b1,b2⟩:=hS.obs _ _ a1;rw [iw n a2];exact ⟨a2,b1.to a3 hq hν',b2⟩
  . obtain ⟨o1,ho1⟩:=Option.ne_none_iff_exists'.1 hn
    obtain ⟨o2,ho2⟩:=Option.ne_none_iff_exists'.1 hm;obtain ⟨a1,a2,_⟩:=h4.get n o1 ho1;obtain ⟨b1,b2,_⟩:=h4.get m o2 ho2;rw [iw n a2] at e ln;rw [iw m b2] at e lm;exact h5 n (BN hn) m (BN hm) (hS.inj _ _ (by rw [a1];simp) (by rw [b1];simp) ln lm e)
  . by_cases hk:n<k0
    . rw [iw n (by omega),h2 n hk]
      exact hE.old n (by omega)
    . simp only [ν]
      rw [if_neg (by omega)]
  . obtain ⟨o1,ho1⟩:=Option.ne_none_iff_exists'.1 hn
    obtain ⟨a1,a2,_⟩:=h4.get n o1 ho1;rw [iw n a2];have hnm:=hE.names (ρ n) (by rw [a1];simp)
    by_cases hk:n<k0
    . rw [h2 n hk] at hnm ⊢
      rcases hnm with ⟨⟨b1,_⟩,_⟩ | ⟨b1,b2⟩
      . omega
      . exact .inr ⟨by omega,b2⟩
    . refine .inl ⟨⟨by omega,a2⟩,?_⟩
      rcases hnm with ⟨_,b⟩ | ⟨b1,b2⟩
      . exact b
      . exact λ l=> .inr ⟨ρ n,b2,by rw [hE.old _ b1] at l;exact l,by rw [hE.old _ b1]⟩
theorem SW.weak {s:cu}{st1:St}(ρ:Nat->Nat)(hw:aI k0 st st1 ρ)(h:SW P N k0 s st1 Q):SW P N k0 s st Q:=
 λ c hc rd hrf cR M0 w0 c0 a w fO=>h c hc rd hrf cR M0 w0 c0 a w (fO.weak hw)
theorem SW.loop {α:Type}{x:cu}(I:α->St)(m:α->Nat)(i0:α)(KD:Nat->Nat)(h0:aI k0 st (I i0) KD)
  (round:∀ i,SW P N k0 x (I i) λ e st'=>match e with | .normal=>∃ j ρ,m j<m i/\aI k0 st' (I j) ρ | e=>Q e st'):SW P N k0 (.loop x) st Q:=by
 intro c hc rd hrf cR M0 w0 c0 a w fO;cases c <;> simp only [cK] at hc <;> first
  | (cases hc;done)
  | (exfalso;split at hc <;> cases hc;done)
  | skip
 case loop cx=>
  obtain ⟨x',hx,e1⟩:=Option.map_eq_some_iff.1 hc;injection e1 with e1;subst e1;have key:∀ n i a w,m i=n->iJ N cR M0 w0 c0 k0 (I i) a w->(Code.loop cx).wpIn (jO rd) 0 P (λ e a' w'=>∃ st',Q e st'/\iJ N cR M0 w0 c0 k0 st' a' w') a w:=by
   intro n i a w hn hI;refine wpIn_loop (λ a w=>∃ i,iJ N cR M0 w0 c0 k0 (I i) a w) (λ a w=>Classical.epsilon λ n=>∃ i,m i=n/\iJ N cR M0 w0 c0 k0 (I i) a w/\∀ j,iJ N cR M0 w0 c0 k0 (I j) a w->m i<=m j) ⟨i,hI⟩ λ a w ⟨i,hI⟩=> ?_
   have least:∀ a w,(∃ i,iJ N cR M0 w0 c0 k0 (I i) a w)->∃ n,∃ i,m i=n/\iJ N cR M0 w0 c0 k0 (I i) a w/\∀ j,iJ N cR M0 w0 c0 k0 (I j) a w->m i<=m j:=by
    intro a w ⟨i,hI⟩;have:∀ n i,m i=n->iJ N cR M0 w0 c0 k0 (I i) a w->∃ n,∃ i,m i=n/\iJ N cR M0 w0 c0 k0 (I i) a w/\∀ j,iJ N cR M0 w0 c0 k0 (I j) a w->m i<=m j:=by
     intro n
     induction n using Nat.strongRecOn with
     | _ n ih=>
      intro i hi hI
      by_cases hh:∃ j,iJ N cR M0 w0 c0 k0 (I j) a w/\m j<m i
      .obtain ⟨j,hj,hlt⟩:=hh
       exact ih (m j) (by omega) j rfl hj
      .exact ⟨m i,i,rfl,hI,λ j hj=>Nat.le_of_not_lt λ h=>hh ⟨j,hj,h⟩⟩
    exact this (m i) i rfl hI
   obtain ⟨i',e1,hI',hmin⟩:=Classical.epsilon_spec (least a w ⟨i,hI⟩);refine wpIn_mono (round i' cx hx rd (λ e=>hrf (by simp [cu.rf,e])) cR M0 w0 c0 a w hI') λ e a' w' ⟨st',h1,h2⟩=> ?_
   cases e <;> try exact ⟨st',h1,h2⟩
   obtain ⟨j,ρ,hlt,hw⟩:=h1;have hJ:=h2.weak hw;refine ⟨⟨j,hJ⟩,?_⟩;obtain ⟨j',e2,hJ',hmin'⟩:=Classical.epsilon_spec (least a' w' ⟨j,hJ⟩);rw [<- e1,<- e2];exact Nat.lt_of_le_of_lt (hmin' j hJ) hlt
  exact key (m i0) i0 a w rfl (fO.weak h0)
 all_goals (exfalso;obtain ⟨_,_,hh⟩:=Option.map_eq_some_iff.1 hc;cases hh)
inductive RV where
 | tmp (t:Nat)
 | cell (t:Nat) (sz:Option Nat)
def HY (P:Program):List ResultVar->Option (List RV)
 | []=>some []
 | .tmp t::r=>match HY P r with
  | some r=>some (.tmp t::r)
  | none=>none
 | .cell t ty::r=>match dM P ty,HY P r with
  | some sz,some r=>some (.cell t sz::r)
  | _,_=>none
def D1 (st:St):List RV->Option (List SV×Prop)
  | []=>some ([],True)
  | .tmp t::r=>match st.env.lookup t,D1 st r with
    | some s,some (ss,ob)=>some (s::ss,ob)
    | _,_=>none
  | .cell t sz::r=>match st.env.lookup t,D1 st r with
    | some s,some (ss,ob)=>match gY (lk st.hp) s with
      | some (cs,off,_)=>match BE cs off sz with
        | some v=>some (v::ss,yZ cs off sz/\ob)
        | none=>none
      | none=>none
    | _,_=>none
def fc:List SV->SV
 | [s]=>s
 | ss=> .eu ss
def zj (tmps:Array Value):ResultVar->Sem Value
 | .tmp t=>pure (tmps.getD t undef)
 | .cell t ty=>do loadVar ty (<- asAddr (tmps.getD t undef))
theorem AJ (fn:Func)(tmps:Array Value):results fn tmps=(do let vs <- fn.results.mapM (zj tmps);pure (if h:vs.size=1 then vs[0] else .tuple vs):Sem Value):=by
 unfold results
 congr 1
theorem AK {w:World}{a:Act}{p:Nat->Prop}{μ:Nat->Nm}{M:Mem}(gD:∀ t s,st.env.lookup t=some s->Rp p μ M s (a.tmps.getD t undef))(hS:bQ p μ M (lk st.hp) w):
  ∀ (rs:List ResultVar) (rj:List RV) (ss:List SV) (ob:Prop),HY P rs=some rj->D1 st rj=some (ss,ob)->ob->
   ∃ vs:List Value,(rs.mapM (zj a.tmps)).run P w= .ok vs w/\aX p μ M ss vs
 | [],rj,ss,ob,h1,h2,h3=>by
  simp [HY] at h1;subst h1;simp [D1] at h2;obtain ⟨rfl,_⟩:=h2;exact ⟨[],by simp,aX.aT.2 rfl⟩
 | .tmp t::rs,rj,ss,ob,h1,h2,h3=>by
  simp only [HY] at h1
  split at h1 <;> try (cases h1;done)
  rename_i r hr;injection h1 with h1;subst h1;simp only [D1] at h2
  split at h2 <;> try (cases h2;done)
  rename_i s ss' kC hs hss;injection h2 with h2;injection h2 with h2 h2';subst h2;subst h2';obtain ⟨vs,h4,h5⟩:=AK gD hS rs r ss' _ hr hss h3;refine ⟨_::vs,?_,aX.aG.2 ⟨_,vs,rfl,gD t s hs,h5⟩⟩;simp only [List.mapM_cons,zj,Sem.run_bind,Sem.run_pure,Result.andThen_ok,h4]
 | .cell t ty::rs,rj,ss,ob,h1,h2,h3=>by
  simp only [HY] at h1
  split at h1 <;> try (cases h1;done)
  rename_i sz r hsz hr;injection h1 with h1;subst h1;simp only [D1] at h2
  split at h2 <;> try (cases h2;done)
  rename_i s ss' kC hs hss
  split at h2 <;> try (cases h2;done)
  rename_i cs off F hc
  split at h2 <;> try (cases h2;done)
  rename_i v hv;injection h2 with h2;injection h2 with h2 h2';subst h2;subst h2';obtain ⟨vs,h4,h5⟩:=AK gD hS rs r ss' _ hr hss h3.2;obtain ⟨b,q,e1,hrd⟩:=qj hc (gD t s hs) (hS.sub (tj hc));obtain ⟨u,hu,hu'⟩:=BF hsz hv h3.1 hrd;refine ⟨u::vs,?_,aX.aG.2 ⟨u,vs,rfl,hu',h5⟩⟩;have hA:(asAddr (a.tmps.getD t undef)).run P w= .ok ⟨b,q+off,none⟩ w:=by rw [e1];rfl
  simp only [List.mapM_cons,zj,hA,Sem.run_bind,Sem.run_pure,Result.andThen_ok,hu,h4]
theorem zk {w:World}{a:Act}{fn:Func}{rj:List RV}{ss:List SV}{ob:Prop}{p:Nat->Prop}{μ:Nat->Nm}{M:Mem}(gD:∀ t s,st.env.lookup t=some s->Rp p μ M s (a.tmps.getD t undef))(hS:bQ p μ M (lk st.hp) w)
  (h1:HY P fn.results.toList=some rj) (h2:D1 st rj=some (ss,ob)) (h3:ob):∃ v,(results fn a.tmps).run P w= .ok v w/\Rp p μ M (fc ss) v:=by
 obtain ⟨vs,h4,h5⟩:=AK gD hS fn.results.toList rj ss ob h1 h2 h3;have h6:(fn.results.mapM (zj a.tmps)).run P w= .ok vs.toArray w:=by
  rw [<- Array.toArray_toList (xs:=fn.results),List.mapM_toArray,Sem.run_map,h4];rfl
 have hl:=h5.length;rw [AJ];simp only [Sem.run_bind,h6,Result.andThen_ok,Sem.run_pure]
 match ss,vs,hl,h5 with
 | [s],[v],_,h5=>
  obtain ⟨u,us,e,hu,_⟩:=aX.aG.1 h5;injection e with e1 e2;subst e1;exact ⟨v,by rw [dif_pos (by rfl)];rfl,hu⟩
 | [],[],_,h5=>exact ⟨_,rfl,Rp.eH.2 ⟨#[],by simp,h5⟩⟩
 | s::s'::ss,[],h,_=>simp at h
 | s::s'::ss,[v],h,_=>simp at h
 | s::s'::ss,v::v'::vs,_,h5=>exact ⟨_,rfl,Rp.eH.2 ⟨(v::v'::vs).toArray,by simp,by simpa using h5⟩⟩
theorem bQ.put {p:Nat->Prop}{μ:Nat->Nm}{M:Mem}{c:Nat->Option Ob}{w:World}(hS:bQ p μ M c w){r:Nat}{y:Obj}(x:Obj)(hr:w.heap[r]? =some y)(hf:kE y=true):bQ p μ M c (w.putObj r x):=by
 refine ⟨⟨λ b o v h=> ?_,hS.mem.mc⟩,λ n ob hn=> ?_,hS.inj⟩
 .have h1:=hS.mem b o v h
  have hb:b≠r:=by
   rintro rfl;simp only [World.cell?,hr] at h1;cases y <;> simp [kE] at hf h1
  simp only [World.cell?,World.putObj_heap_other hb] at h1 ⊢;exact h1
 .obtain ⟨a1,a2,a3⟩:=hS.obs n ob hn
  exact ⟨a1,a2.more (λ _ h=>h) (λ _ _=>rfl) (Mem.le_refl _) (λ hl=>World.putObj_heap_other (hS.not hr hf n (by rw [hn];simp) hl)),a3⟩
theorem Ev.put {c c':Nat->Option Ob}{new:Nat->Prop}{μ bn:Nat->Nm}{M M':Mem}{w0 w:World}(hE:Ev c new μ M w0 c' bn M' w){r:Nat}(x:Obj)(hr:w0.heap.size<=r):Ev c new μ M w0 c' bn M' (w.putObj r x):=
 ⟨hE.old,hE.mem,λ b hb hn=>⟨(World.putObj_heap_other (by omega)).trans (hE.frame b hb hn).1,(hE.frame b hb hn).2⟩,by rw [World.putObj_size];exact hE.size,hE.names,hE.os,hE.tape,hE.output⟩
theorem Marks.put {w0 w:World}{r:Nat}(x:Obj):∀ df,(∀ d',d'∈df->d'≠⟨.collected r,#[]⟩)->Marks w0 w df->Marks w0 (w.putObj r x) df
 | [],_,_=>trivial
 | d::ds,hne,⟨⟨r',h1,h2,h3,h4⟩,h5⟩=>
  ⟨⟨r',h1,h2,(World.putObj_heap_other (λ e=>hne d (by simp) (by rw [h1,e]))).trans h3,h4⟩,Marks.put x ds (λ d' hd=>hne d' (by simp [hd])) h5⟩
theorem rm {fn:Func}{tmps:Array Value}{R:Ending->World->Prop}{p:Nat->Prop}{μ:Nat->Nm}{M:Mem}{c:Nat->Option Ob}{c0:Nat->Option Ob}{new:Nat->Prop}{cR:Nat->Nm}{M0:Mem}{w0:World}:
  ∀ (df:List Deferred) (w:World),Marks w0 w df->bQ p μ M c w->Ev c0 new cR M0 w0 c μ M w->(∀ w',bQ p μ M c w'->Ev c0 new cR M0 w0 c μ M w'->LeavesIn (jO none) 0 P fn tmps R [] .returning w')->LeavesInM (jO none) 0 P fn tmps R df .returning w
 | [],w,_,hS,hE,h=>h w hS hE
 | d::ds,w,⟨⟨r,h1,h2,h3,h4⟩,h5⟩,hS,hE,h=>by
  refine ⟨by simp,.inl ⟨r,_,by rw [h1],run_takeDeferred h3,?_⟩⟩;exact rm ds _ (Marks.put _ ds h4 h5) (hS.put _ h3 rfl) (hE.put _ h2) h
def Fin (k nk:Nat)(rj:List RV)(Q:SV->Hp->Prop)(st:St):Prop:=
 ∃ ss ob F',D1 st rj=some (ss,ob)/\ob/\HSub F' st.hp/\Q (fc ss) F'/\(fc ss).ok (λ n=>decide (n<k+nk))=true/\F'.ok (λ n=>decide (n<k+nk))=true/\k+nk<=st.k
def mB:Nat->List SV->List (Nat×SV)
 | _,[]=>[]
 | i,s::ss=>(i,s)::mB (i+1) ss
theorem zl:∀ (i:Nat) (ss:List SV) (t:Nat) (s:SV),(mB i ss).lookup t=some s->i<=t/\ss[t - i]? =some s
 | i,[],t,s,h=>by simp [mB] at h
 | i,x::ss,t,s,h=>by
  simp only [mB,List.lookup] at h
  split at h
  .rename_i e
   have e:t=i:=by simpa using e
   injection h with h;subst h;subst e;simp
  .obtain ⟨h1,h2⟩:=zl (i+1) ss t s h
   refine ⟨by omega,?_⟩;rw [show t - i=(t - (i+1))+1 by omega]
   simpa using h2
theorem SB.HZ {f:FuncId}{fn:Func}{c:Code}{s:cu}{rj:List RV}{args:List SV}{F:Hp}{k nk:Nat}{Q:SV->Hp->Prop}(hf:P.funcs[f]? =some fn)(hb:fn.body=some c)(hc:cK P fn.ntmps c=some s)
  (L3:HY P fn.results.toList=some rj) (Er:jQ P f=true) (hargs:SV.ay (λ n=>decide (n<k)) args=true) (hF:F.ok (λ n=>decide (n<k))=true) (hN:args.length<=fn.ntmps)
  (h:SW P fn.ntmps k s ⟨mB 0 args,F,k⟩ λ e st'=>match e with | .normal=>Fin k nk rj Q st' | .ret=>Fin k nk rj Q st' | _=>False):SB P f args F k nk Q:=by
 refine ⟨Er,hargs,hF,λ μ M w vals hr hS=>sg (r:=none) (n:=0) |>.1 (callsIn_of_wp_marks hf hb trivial ?_)⟩;have hlen:vals.size=args.length:=by simpa using hr.length
 have fO:iJ fn.ntmps μ M w (lk F) k ⟨mB 0 args,F,k⟩ { tmps:=vals++Array.replicate (fn.ntmps - vals.size) undef,defers:=[]} w:=by
  refine ⟨Nat.le_refl _,trivial,by simp;omega,μ,M,λ t s hs=> ?_,hS,Ev.refl _ _ _ _ _ λ n hn hh=>absurd hh.2 (Nat.not_lt.2 hh.1)⟩;obtain ⟨_,h2⟩:=zl 0 args t s hs;obtain ⟨u,hu,hr'⟩:=hr.get h2;have hu':vals[t]? =some u:=by simpa using hu
  have hlt:t<vals.size:=(Array.getElem?_eq_some_iff.1 hu').1;have:(vals++Array.replicate (fn.ntmps - vals.size) undef).getD t undef=u:=by
   rw [Array.getD_eq_getD_getElem?,Array.getElem?_append_left hlt,hu'];rfl
  rw [this];exact hr'
 refine wpIn_mono (h c hc none (λ _=>rfl) μ M w (lk F) _ w fO) ?_;rintro e a' w' ⟨st',hQ,hSt'⟩;obtain ⟨_,hdf,_,xQ,M1,gD,hS0,hE0⟩:=hSt';have fin:Fin k nk rj Q st'->LeavesInM (jO none) 0 P fn a'.tmps (λ e w'=>∃ r F' bn M' u,e=Ending.returned u/\Q r F'/\r.ok (λ n=>decide (n<k+nk))=true/\F'.ok (λ n=>decide (n<k+nk))=true/\di bn M' r u/\bQ (· <k+nk) bn M' (lk F') w'/\
   Ev (lk F) (λ n=>k<=n/\n<k+nk) μ M w (lk F') bn M' w') a'.defers .returning w':=by
  rintro ⟨ss,ob,F',h1,h2,h3,h4,h5,h6,h7⟩;refine rm a'.defers w' hdf hS0 hE0 λ w' vP qi=> ?_
  obtain ⟨v,hv,hr'⟩:=zk gD vP L3 h1 h2;refine ⟨v,hv,fc ss,F',λ n=>if n<k+nk then xQ n else μ n,M1,v,rfl,h4,h5,h6,?_,?_,?_⟩
  .exact di.congr (λ n hn=>by simp only [decide_eq_true_eq] at hn;rw [if_pos hn]) _ v h5 hr'.rep
  .refine ⟨vP.mem,λ n ob hn=> ?_,λ n m hn hm ln lm e=> ?_⟩
   .obtain ⟨a1,a2⟩:=Hp.eF h6 hn
    simp only [decide_eq_true_eq] at a1;obtain ⟨_,b1,b2⟩:=vP.obs n ob (h3 n ob hn);simp only [if_pos a1];refine ⟨a1,?_,b2⟩;have hb':cB (· <st'.k) (λ n=>xQ (id n)) M1 w' (xQ n) (ob.aA id):=by
     have hid:∀ s:SV,s.aA id=s:=λ s=>by
      have key:∀ s:SV,s.aA id=s:=by
       intro s;exact SV.rec (motive_1:=λ s=>s.aA id=s) (motive_2:=λ l=>SV.aQ id l=l) (λ _=>rfl) (λ _ _=>rfl) (λ _ _=>rfl) (λ _ _ _=>rfl) (λ _ _=>rfl) (λ _=>rfl) (λ _=>rfl) (λ _=>rfl) (λ f a c h1 h2=>by simp only [SV.aA,h1,h2]) (λ cs h=>by simp only [SV.aA,h]) (λ cs h=>by simp only [SV.aA,h]) rfl rfl (λ c cs h1 h2=>by simp only [SV.aQ,h1,h2]) s
      exact key s
     have hids:∀ l:List SV,SV.aQ id l=l:=λ l=>by induction l <;> simp_all [SV.aQ]
     have:ob.aA id=ob:=by
      cases ob <;> simp [Ob.aA,hids,hid]
     rw [this];exact b1
    exact cB.to a2 (λ m hm=>by simpa using hm) (λ m hm=>by simp only [decide_eq_true_eq] at hm;simp [hm]) hb'
   .obtain ⟨o1,ho1⟩:=Option.ne_none_iff_exists'.1 hn
    obtain ⟨o2,ho2⟩:=Option.ne_none_iff_exists'.1 hm;have a1:=(Hp.eF h6 ho1).1;have a2:=(Hp.eF h6 ho2).1;simp only [decide_eq_true_eq] at a1 a2;rw [if_pos a1] at e ln;rw [if_pos a2] at e lm;exact vP.inj n m (by rw [h3 n o1 ho1];simp) (by rw [h3 m o2 ho2];simp) ln lm e
  .refine ⟨λ n hn=> ?_,qi.mem,qi.frame,qi.size,λ n hn=> ?_,qi.os,qi.tape,qi.output⟩
   .by_cases hnk:n<k+nk
    .rw [if_pos hnk];exact qi.old n (by omega)
    .rw [if_neg hnk]
   .obtain ⟨o1,ho1⟩:=Option.ne_none_iff_exists'.1 hn
    have a1:=(Hp.eF h6 ho1).1;simp only [decide_eq_true_eq] at a1;rw [if_pos a1];rcases qi.names n (by rw [h3 n o1 ho1];simp) with ⟨b1,b2⟩ | ⟨b1,b2⟩
    .exact .inl ⟨⟨b1.1,a1⟩,b2⟩
    .exact .inr ⟨by omega,b2⟩
 cases e <;> first
  | exact fin hQ
  | exact hQ.elim
end
end
end Go.Sl
