/-
 A region, in whatever order: what each operation needs is there when it comes up.
-/
import Derived.RangeFuncRecord
import Derived.Test.YtaelhkkjgfobhaaGreatR2
set_option linter.unusedSimpArgs false
set_option linter.unusedSectionVars false
set_option linter.unusedVariables false
namespace Go.Sl
open Go.RowKit
section
def pick {α:Type}(A:Nat->Bool)(f:Nat->α)(n:Nat)(c:α):α:=match n with
 | 0=>c
 | n+1=>if A n then f n else pick A f n c
theorem fU {α:Type}{A B:Nat->Bool}{f:Nat->α}{c:α}:∀ {n:Nat},(∀ i,i<n->A i=B i)->pick A f n c=pick B f n c
 | 0,_=>rfl
 | n+1,h=>by simp only[pick,h n (by omega),fU (n:=n) λ i hi=>h i (by omega)]
theorem sP {α:Type}{A:Nat->Bool}{f:Nat->α}{c:α}:∀ {n:Nat},(∀ i,i<n->A i=false)->pick A f n c=c
 | 0,_=>rfl
 | n+1,h=>by simp[pick,h n (by omega),sP (n:=n) λ i hi=>h i (by omega)]
theorem u7 {α:Type}{A B:Nat->Bool}{f:Nat->α}{c:α}{i:Nat}:∀ {n:Nat},i<n->(∀ j,j<n->j≠i->B j=A j)->(∀ j,j<n->i<j->A j=false)->B i=true->pick B f n c=f i
 | 0,h,_,_,_=>by omega
 | n +1,h,h1,h2,h3=>by
  by_cases hn:n=i
  .subst hn;simp[pick,h3]
  .have hA:A n=false:=h2 n (by omega) (by omega)
   have hB:B n=false:=(h1 n (by omega) hn).trans hA;simp only[pick,hB,Bool.false_eq_true,if_false];exact u7 (by omega) (λ j hj=>h1 j (by omega)) (λ j hj=>h2 j (by omega)) h3
theorem sQ {α:Type}{A:Nat->Bool}{f:Nat->α}{c:α}{i:Nat}:∀ {n:Nat},i<=n->pick (λ j=>A j && decide (j<i)) f n c=pick A f i c
 | 0,h=>by
  have:i=0:=by omega
  subst this;rfl
 | n +1,h=>by
  by_cases hn:i=n+1
  .subst hn
   exact fU λ j hj=>by simp[hj]
  .have:decide (n<i)=false:=by simp;omega
   simp only[pick,this,Bool.and_false,Bool.false_eq_true,if_false];exact sQ (by omega)
def gU (bs:List Nat)(i j:Nat):Bool:=(bs.getD j 0).testBit i
def zW (n:Nat)(f:Nat->Nat->Bool):Bool:=(List.range n).all λ i=>(List.range n).all λ j=>f i j
theorem pQ {n:Nat}{f:Nat->Nat->Bool}(h:zW n f=true){i j:Nat}(hi:i<n)(hj:j<n):f i j=true:=by
 have:=List.all_eq_true.1 h i (List.mem_range.2 hi);exact List.all_eq_true.1 this j (List.mem_range.2 hj)
def okB (ops:Array Oper)(bs:List Nat):Bool:=
 zW ops.size (λ j i=> !gU bs i j || (i<j && ((ops[j]?).map λ o=>o.after.any λ e=>Region.binds .any e && (e.on == i || (e.on<j && gU bs i e.on))).getD false)) &&
 (List.range ops.size).all λ j=>((ops[j]?).map λ o=>o.after.all λ e=> !Region.binds .any e || e.on<j).getD false
def gD (ops:Array Oper)(i:Nat):Option Tmp:=(ops[i]?).bind (·.dst)
def looks (ops:Array Oper)(i:Nat):List Tmp:=((ops[i]?).map λ o=>o.looksAt ops).getD []
def CN (ops:Array Oper)(bs:List Nat):Bool:=
 zW ops.size λ i j=>i == j || match gD ops i with
  | none=>true
  | some d=>gD ops j != some d && (!(looks ops j).contains d || gU bs i j || gU bs j i)
structure RG (P:Program)(ops:Array Oper)(bs:List Nat)(N:Nat)(E0:Nat->Option SV)(H0:Nat->Option Ob)(k0:Nat)(cQ:Nat->mH)(ro:Nat->Bool)(kk:Nat->Nat):Prop where
 slots:CN ops bs=true
 Qt:∀ i d,gD ops i=some d->d<N
 Pn:kk 0=k0
 Po:∀ i,kk (i+1)=kk i+(cQ i).nk
 NV:∀ i j jr,i<ops.size->j<ops.size->i≠j->ro i=false->((lk (cQ i).F jr).isSome || (lk (cQ i).F' jr).isSome)=true->((lk (cQ j).F jr).isSome || (lk (cQ j).F' jr).isSome)=true->gU bs i j=true\/gU bs j i=true
 Qu:∀ i,ro i=true->(cQ i).F'=(cQ i).F
section
variable {P:Program} {ops:Array Oper} {bs:List Nat} {N:Nat} {E0:Nat->Option SV} {H0:Nat->Option Ob} {k0:Nat} {cQ:Nat->mH} {ro:Nat->Bool} {kk:Nat->Nat}
def iI (ops:Array Oper)(E0:Nat->Option SV)(cQ:Nat->mH)(D:Nat->Bool)(n t:Nat):Option SV:=pick (λ i=>D i && gD ops i == some t) (λ i=>some (cQ i).v) n (E0 t)
def jw (cQ:Nat->mH)(i jr:Nat):Bool:=(lk (cQ i).F jr).isSome || (lk (cQ i).F' jr).isSome
def fI (H0:Nat->Option Ob)(cQ:Nat->mH)(ro:Nat->Bool)(D:Nat->Bool)(n jr:Nat):Option Ob:=pick (λ i=>D i && (!ro i && jw cQ i jr)) (λ i=>lk (cQ i).F' jr) n (H0 jr)
def mO (want:Bool):SV->Bool
 | .d (.bool b)=>b != want
 | .dL []=>true
 | _=>false
def sR (P:Program)(ops:Array Oper)(E:Nat->Option SV)(H:Nat->Option Ob)(k:Nat)(o:Oper)(e:mH):Prop:=
 (∃ j want t s,o.guard=some (j,want)/\gD ops j=some t/\E t=some s/\mO want s=true/\e.v= .dL []/\e.F=[]/\e.F'=[]/\e.nk=0)\/
 ((o.guard=none\/∃ j want t,o.guard=some (j,want)/\gD ops j=some t/\E t=some (.d (.bool want)))/\Sound P o E H k e)
theorem OT.facts {o:Oper}{E E':Nat->Option SV}{F F':Hp}{new:Nat->Prop}{v:SV}(h:OT P o E F new v F')(hE:∀ t,Operand.tmp t∈o.op.operands->∀ s,E t=some s->E' t=some s):OT P o E' F new v F':=by
 intro rd p μ M a w K Q hnew hk hS hK;exact h rd p μ M a w K Q hnew ⟨λ t ht s hs=>hk.1 t ht s (hE t ht s hs),hk.2⟩ hS hK
theorem DQ {i:Nat}{o:Oper}{t:Nat}(ho:ops[i]? =some o)(ht:Operand.tmp t∈o.op.operands):t∈looks ops i:=by
 simp only[looks,ho,Option.map_some,Option.getD_some,Oper.looksAt,List.mem_append];exact .inl (List.mem_filterMap.2 ⟨.tmp t,by simpa using ht,rfl⟩)
theorem tV {i j:Nat}{o:Oper}{t:Nat}{want:Bool}(ho:ops[i]? =some o)(hg:o.guard=some (j,want))(ht:gD ops j=some t):t∈looks ops i:=by
 simp only[looks,ho,Option.map_some,Option.getD_some,Oper.looksAt,List.mem_append,hg];refine .inr ?_;unfold gD at ht;simp[ht]
def u9 (ops:Array Oper)(D:Nat->Bool):Prop:=∀ j o,D j=true->ops[j]? =some o->∀ e∈o.after,Region.binds .any e=true->D e.on=true
def CO (ops:Array Oper)(D:Nat->Bool)(i:Nat):Prop:=∀ o,ops[i]? =some o->∀ e∈o.after,Region.binds .any e=true->D e.on=true
theorem Bt (h:okB ops bs=true){i j:Nat}(hj:j<ops.size)(hi:i<ops.size)(ho:gU bs i j=true):i<j/\∃ o,ops[j]? =some o/\∃ e∈o.after,Region.binds .any e=true/\(e.on=i\/(e.on<j/\gU bs i e.on=true)):=by
 simp only[okB,Bool.and_eq_true] at h;have:=pQ h.1 hj hi;simp only[ho,Bool.not_true,Bool.false_or,Bool.and_eq_true,decide_eq_true_eq] at this;refine⟨this.1,ops[j],Array.getElem?_eq_getElem hj,?_⟩;have h2:=this.2;rw[Array.getElem?_eq_getElem hj] at h2;simp only[Option.map_some,Option.getD_some] at h2;obtain⟨e,he,hb⟩:=Array.any_eq_true'.1 h2;simp only[Bool.and_eq_true,Bool.or_eq_true,beq_iff_eq,decide_eq_true_eq] at hb;exact⟨e,he,hb.1,hb.2⟩
theorem sS (h:okB ops bs=true){D:Nat->Bool}(hc:u9 ops D):∀ {j i:Nat},j<ops.size->i<ops.size->CO ops D j->gU bs i j=true->D i=true:=by
 intro j
 induction j using Nat.strongRecOn with
 | _ j ih=>
  intro i hj hi hp ho;obtain⟨_,o,ho',e,he,hb,h2⟩:=Bt h hj hi ho;have hD:=hp o ho' e he hb;rcases h2 with rfl|⟨hlt,h3⟩
  .exact hD
  .exact ih e.on hlt (by omega) hi (λ o' ho''=>hc e.on o' hD ho'') h3
theorem Bu (h:okB ops bs=true){D:Nat->Bool}(hc:u9 ops D){i j:Nat}(hj:j<ops.size)(hi:i<ops.size)(hD:D j=true)(ho:gU bs i j=true):D i=true:=
 sS h hc hj hi (λ o' ho'=>hc j o' hD ho') ho
theorem Pp (h:okB ops bs=true){D:Nat->Bool}(hc:u9 ops D){i j:Nat}(hi:i<ops.size)(hj:j<ops.size)(hn:D i=false)(hp:CO ops D i)(ho:gU bs i j=true\/gU bs j i=true):D j=decide (j<i):=by
 rcases ho with ho|ho
 .have hlt:=(Bt h hj hi ho).1
  cases hD:D j with
  | false=>simp;omega
  | true=>
   have:=Bu h hc hj hi hD ho;rw[this] at hn;cases hn
 .have hlt:=(Bt h hi hj ho).1
  rw[sS h hc hi hj hp ho];simp[hlt]
variable (hR:RG P ops bs N E0 H0 k0 cQ ro kk)
include hR
theorem RG.Jd {D:Nat->Bool}{i t:Nat}(hi:i<ops.size)(hn:D i=false)(hT:∀ j,j<ops.size->j≠i->(gU bs i j=true\/gU bs j i=true)->D j=decide (j<i))(hl:t∈looks ops i):
    iI ops E0 cQ D ops.size t=iI ops E0 cQ (λ _=>true) i t:=by
  unfold iI;rw[<- sQ (A:=λ j=>true && gD ops j == some t) (n:=ops.size) (by omega)];refine fU λ j hj=> ?_
  by_cases hd:gD ops j=some t
  . by_cases hji:j=i
    . subst hji;simp[hn,hd]
    . have hs:=pQ hR.slots hj hi
      simp only[beq_iff_eq,hji,Bool.or_eq_true,false_or,hd,Bool.and_eq_true,Bool.not_eq_true'] at hs;have hcon:(looks ops i).contains t=true:=by simpa using hl
      rw[hcon] at hs;have ho:gU bs i j=true\/gU bs j i=true:=by
        rcases hs.2 with(h|h)|h
        . cases h
        . exact .inr h
        . exact .inl h
      simp[hd,hT j hj hji ho]
  . simp[beq_eq_false_iff_ne.2 hd]
theorem RG.Je {D:Nat->Bool}{i jr:Nat}(hi:i<ops.size)(hn:D i=false)(hT:∀ j,j<ops.size->j≠i->(gU bs i j=true\/gU bs j i=true)->D j=decide (j<i))(ht:jw cQ i jr=true):
    fI H0 cQ ro D ops.size jr=fI H0 cQ ro (λ _=>true) i jr:=by
  unfold fI;rw[<- sQ (A:=λ j=>true && (!ro j && jw cQ j jr)) (n:=ops.size) (by omega)];refine fU λ j hj=> ?_
  by_cases hd:ro j=false/\jw cQ j jr=true
  . by_cases hji:j=i
    . subst hji;simp[hn]
    . have ho:=hR.NV j i jr hj hi hji hd.1 hd.2 ht
      simp[hd.1,hd.2,hT j hj (by assumption) ho.symm]
  . have:(!ro j && jw cQ j jr)=false:=by
      cases h1:ro j<;>cases h2:jw cQ j jr<;>simp_all
    simp[this]
theorem RG.zX {D:Nat->Bool}{i t:Nat}(hi:i<ops.size)(hn:D i=false):
  iI ops E0 cQ (λ j=>D j || j == i) ops.size t=if gD ops i=some t then some (cQ i).v else iI ops E0 cQ D ops.size t:=by
 by_cases hd:gD ops i=some t
 .rw[if_pos hd]
  unfold iI;refine u7 (A:=λ j=>D j && gD ops j == some t) hi (λ j hj hji=>by simp[beq_eq_false_iff_ne.2 hji]) (λ j hj hlt=> ?_) (by simp[hd]);have hs:=pQ hR.slots hi hj;simp only[beq_iff_eq,Bool.or_eq_true,show ¬ i=j by omega,false_or,hd,Bool.and_eq_true,bne_iff_ne,ne_eq] at hs;simp[hs.1]
 .rw[if_neg hd]
  unfold iI;refine fU λ j hj=> ?_
  by_cases hji:j=i
  .subst hji;simp[hd,hn]
  .simp[beq_eq_false_iff_ne.2 hji]
theorem RG.zY {D:Nat->Bool}{i:Nat}(hi:i<ops.size)(hn:D i=false)(hT:∀ j,j<ops.size->j≠i->(gU bs i j=true\/gU bs j i=true)->D j=decide (j<i))(hr:ro i=false):
  fI H0 cQ ro (λ j=>D j || j == i) ops.size=Bm (fI H0 cQ ro D ops.size) (lk (cQ i).F) (lk (cQ i).F'):=by
 funext jr
 by_cases ht:jw cQ i jr=true
 .rw[fm (by
   simp only[jw,Bool.or_eq_true,Option.isSome_iff_ne_none] at ht;exact ht)]
  unfold fI;refine u7 (A:=λ j=>D j && (!ro j && jw cQ j jr)) hi (λ j hj hji=>by simp[beq_eq_false_iff_ne.2 hji]) (λ j hj hlt=> ?_) (by simp[hr,ht])
  by_cases hd:ro j=false/\jw cQ j jr=true
  .have ho:=hR.NV j i jr hj hi (by omega) hd.1 hd.2 ht
   have:=hT j hj (by omega) ho.symm;simp[this];omega
  .have:(!ro j && jw cQ j jr)=false:=by
    cases h1:ro j<;>cases h2:jw cQ j jr<;>simp_all
   simp[this]
 .have hF:lk (cQ i).F jr=none/\lk (cQ i).F' jr=none:=by
   simp only[jw,Bool.or_eq_true,Option.isSome_iff_ne_none,not_or,Classical.not_not] at ht;exact ht
  rw[dB hF.1 hF.2];unfold fI;refine fU λ j hj=> ?_
  by_cases hji:j=i
  .subst hji;simp[hn,ht]
  .simp[beq_eq_false_iff_ne.2 hji]
theorem RG.xJ {D:Nat->Bool}{i:Nat}(hr:ro i=true):fI H0 cQ ro (λ j=>D j || j == i) ops.size=fI H0 cQ ro D ops.size:=by
 funext jr
 unfold fI;refine fU λ j hj=> ?_
 by_cases hji:j=i
 .subst hji;simp[hr]
 .simp[beq_eq_false_iff_ne.2 hji]
theorem RG.mono:∀ {i j:Nat},i<=j->kk i<=kk j:=by
 intro i j h
 induction j with
 | zero=>
   have:i=0:=by omega
   subst this;exact Nat.le_refl _
 | succ j ih=>
  by_cases hij:i=j+1
  .subst hij;exact Nat.le_refl _
  .have:=ih (by omega);rw[hR.Po];omega
omit hR
def ur (ops:Array Oper)(cQ:Nat->mH)(kk:Nat->Nat)(D:Nat->Bool)(n:Nat):Prop:=∃ j,j<ops.size/\D j=true/\kk j<=n/\n<kk j+(cQ j).nk
def pD (ops:Array Oper)(k0:Nat)(cQ:Nat->mH)(kk:Nat->Nat)(D:Nat->Bool)(n:Nat):Prop:=n<k0\/ur ops cQ kk D n
structure Inv (ops:Array Oper)(N:Nat)(E0:Nat->Option SV)(H0:Nat->Option Ob)(k0:Nat)(cQ:Nat->mH)(ro:Nat->Bool)(kk:Nat->Nat)(cq:Nat->Nm)(M0:Mem)(w0:World)(df:List Deferred)(D:Nat->Bool)(a:Act)(w:World):Prop where
 ex:∃ μ M,(∀ t s,iI ops E0 cQ D ops.size t=some s->Rp (pD ops k0 cQ kk D) μ M s (a.tmps.getD t undef))/\bR (pD ops k0 cQ kk D) μ M (fI H0 cQ ro D ops.size) w/\
  Ev H0 (ur ops cQ kk D) cq M0 w0 (fI H0 cQ ro D ops.size) μ M w
 df:a.defers=df
 sz:a.tmps.size=N
theorem u_ {a:Act}{d:Nat}{v:Value}(h:d<a.tmps.size):(a.put (some d) v).tmps.getD d undef=v:=by
 simp[Act.put,h]
theorem pR {a:Act}{d t:Nat}{v:Value}(h:t≠d):(a.put (some d) v).tmps.getD t undef=a.tmps.getD t undef:=by
 simp[Act.put,Array.getElem?_setIfInBounds_ne (Ne.symm h)]
theorem oT {a:Act}{d:Option Nat}{v:Value}:(a.put d v).tmps.size=a.tmps.size:=by cases d<;>simp[Act.put]
theorem l5 {a:Act}{d:Option Nat}{v:Value}:(a.put d v).defers=a.defers:=by cases d<;>rfl
theorem qF {a:Act}{j t:Nat}(hd:gD ops j=some t)(h:a.tmps.getD t undef=undef):yielded ops a.tmps j=none:=by
 unfold yielded;unfold gD at hd;rw[hd];simp only[Option.bind_some];rcases Nat.lt_or_ge t a.tmps.size with hl|hl
 .rw[Array.getElem?_eq_getElem hl]
  rw[Array.getD_eq_getD_getElem?,Array.getElem?_eq_getElem hl] at h;simp only[Option.getD_some] at h;rw[h];rfl
 .rw[Array.getElem?_eq_none hl]
theorem xK {a:Act}{d:Nat}:(a.put (some d) undef).tmps.getD d undef=undef:=by
 rcases Nat.lt_or_ge d a.tmps.size with hl|hl
 .exact u_ hl
 .rw[Array.getD_eq_getD_getElem?,Array.getElem?_eq_none (by rw[oT];exact hl)]
  rfl
theorem iN {a:Act}{j t:Nat}{b:Bool}(hd:gD ops j=some t)(h:a.tmps.getD t undef= .bool b):yielded ops a.tmps j=some b:=by
 unfold yielded;unfold gD at hd;rw[hd];have:a.tmps[t]? =some (.bool b):=by
  rcases Nat.lt_or_ge t a.tmps.size with hl|hl
  .rw[Array.getElem?_eq_getElem hl]
   simp[hl] at h;rw[h]
  .simp[Array.getElem?_eq_none hl] at h
   cases h
 simp[this]
include hR in
theorem RG.step {rd:Option Nat}{cq:Nat->Nm}{M0:Mem}{w0:World}{df:List Deferred}{D:Nat->Bool}{i:Nat}{o:Oper}(ho:ops[i]? =some o)(hn:D i=false)(hT:∀ j,j<ops.size->j≠i->(gU bs i j=true\/gU bs j i=true)->D j=decide (j<i))
  (hs:sR P ops (iI ops E0 cQ (λ _=>true) i) (fI H0 cQ ro (λ _=>true) i) (kk i) o (cQ i)) {a:Act} {w:World} {Q:Exit->Act->World->Prop}
  (hI:Inv ops N E0 H0 k0 cQ ro kk cq M0 w0 df D a w)  :wpOpIn (jX rd) 0 P ops Q i (Inv ops N E0 H0 k0 cQ ro kk cq M0 w0 df (λ j=>D j || j == i)) a w:=by
 have hi:i<ops.size:=(Array.getElem?_eq_some_iff.1 ho).1;obtain⟨⟨μ,M,gL,hS,hE⟩,hdf,hsz⟩:=hI;have hslot:∀ t,t∈looks ops i->∀ s,iI ops E0 cQ (λ _=>true) i t=some s->iI ops E0 cQ D ops.size t=some s:=λ t ht s h=>by
  rw[hR.Jd hi hn hT ht];exact h
 have hdst:gD ops i=o.dst:=by simp[gD,ho]
 unfold wpOpIn;simp only[ho];rcases hs with⟨j,want,t,sv,hg,hd,hE',hb,e1,e2,e3,e4⟩|⟨hg,hOT,hsub⟩
 .have hv:=gL t _ (hslot t (tV ho hg hd) _ hE')
  have hw:Region.wanted o (yielded ops a.tmps)=false:=by
   simp only[Region.wanted,hg];unfold mO at hb
   split at hb
   .rw[iN hd (Rp.bF.1 hv)]
    simpa using hb
   .obtain⟨vs,e,hvs⟩:=Rp.eP.1 hv
    have hvs0:vs= #[]:=by have:=aS.aQ.1 hvs;simpa using this
    rw[qF hd (by rw[e,hvs0];rfl)];rfl
   .cases hb
  simp only[hw,Bool.false_eq_true,if_false];have hnew:ur ops cQ kk (λ j=>D j || j == i)=ur ops cQ kk D:=by
   funext n
   apply propext;constructor
   .rintro⟨j',h1,h2,h3,h4⟩
    by_cases hji:j'=i
    .subst hji;omega
    .exact⟨j',h1,by simpa[beq_eq_false_iff_ne.2 hji] using h2,h3,h4⟩
   .rintro⟨j',h1,h2,h3,h4⟩
    exact⟨j',h1,by simp[h2],h3,h4⟩
  have hpd:pD ops k0 cQ kk (λ j=>D j || j == i)=pD ops k0 cQ kk D:=by
   unfold pD;rw[hnew]
  have hcont:fI H0 cQ ro (λ j=>D j || j == i) ops.size=fI H0 cQ ro D ops.size:=by
   cases hr:ro i with
   | true=>exact hR.xJ hr
   | false=>
    rw[hR.zY hi hn hT hr,e2,e3]
    funext jr
    exact dB rfl rfl
  refine⟨λ _ _=>trivial,⟨⟨μ,M,λ t s h=> ?_,by rw[hpd,hcont];exact hS,by rw[hnew,hcont];exact hE⟩,by rw[l5];exact hdf,by rw[oT];exact hsz⟩⟩;rw[hR.zX hi hn] at h;rw[hpd]
  split at h
  .rename_i heq
   rw[e1] at h;injection h with h;subst h;rw[hdst] at heq;rw[heq,xK];exact Rp.eP.2 ⟨#[],rfl,aS.aQ.2 rfl⟩
  .rename_i hne
   rw[hdst] at hne;cases hod:o.dst with
   | none=>exact gL t s h
   | some d=>rw[pR (λ e=>hne (by rw[hod,e]))];exact gL t s h
 .have hw:Region.wanted o (yielded ops a.tmps)=true:=by
   rcases hg with hg|⟨j,want,t,hg,hd,hE'⟩
   .simp[Region.wanted,hg]
   .have hv:=Rp.bF.1 (gL t _ (hslot t (tV ho hg hd) _ hE'))
    simp only[Region.wanted,hg,iN hd hv];simp
  simp only[hw,if_true];have hnewp:∀ n,(kk i<=n/\n<kk i+(cQ i).nk)-> ¬ pD ops k0 cQ kk D n:=by
   rintro n ⟨h1,h2⟩ (h3|⟨j,hj,hDj,h4,h5⟩)
   .have:=hR.mono (Nat.zero_le i);rw[hR.Pn] at this;omega
   .rcases Nat.lt_trichotomy j i with hlt|heq|hgt
    .have:=hR.mono (show j+1<=i by omega);rw[hR.Po] at this;omega
    .subst heq;rw[hDj] at hn;cases hn
    .have:=hR.mono (show i+1<=j by omega);rw[hR.Po] at this;omega
  have hsub':∀ jr ob,lk (cQ i).F jr=some ob->fI H0 cQ ro D ops.size jr=some ob:=λ jr ob h=>by
   rw[hR.Je hi hn hT (by simp[jw,h])];exact hsub jr ob h
  refine hOT.facts (λ t ht s h=>hslot t (DQ ho ht) s h) rd (pD ops k0 cQ kk D) μ M a w _ Q hnewp ⟨λ t ht s h=>gL t s h,hS.mem.kP⟩ (hS.sub hsub') λ u bh M' w' hu sJ hE'=> ?_
  have hpeq:(λ n=>pD ops k0 cQ kk D n\/(kk i<=n/\n<kk i+(cQ i).nk))=pD ops k0 cQ kk (λ j=>D j || j == i):=by
   funext n
   apply propext;constructor
   .rintro((h|⟨j,hj,h1,h2⟩)|h)
    .exact .inl h
    .exact .inr ⟨j,hj,by simp[h1],h2⟩
    .exact .inr ⟨i,hi,by simp,h⟩
   .rintro(h|⟨j,hj,h1,h2⟩)
    .exact .inl (.inl h)
    .by_cases hji:j=i
     .subst hji;exact .inr h2
     .exact .inl (.inr ⟨j,hj,by simpa[beq_eq_false_iff_ne.2 hji] using h1,h2⟩)
  have hneq:(λ n=>ur ops cQ kk D n\/(kk i<=n/\n<kk i+(cQ i).nk))=ur ops cQ kk (λ j=>D j || j == i):=by
   funext n
   apply propext;constructor
   .rintro(⟨j,hj,h1,h2⟩|h)
    .exact⟨j,hj,by simp[h1],h2⟩
    .exact⟨i,hi,by simp,h⟩
   .rintro⟨j,hj,h1,h2⟩
    by_cases hji:j=i
    .subst hji;exact .inr h2
    .exact .inl ⟨j,hj,by simpa[beq_eq_false_iff_ne.2 hji] using h1,h2⟩
  have hfr:=hS.Bp hsub' hnewp hE' sJ λ n h=> .inl h
  rw[hpeq] at hu hfr;have hcont:fI H0 cQ ro (λ j=>D j || j == i) ops.size=Bm (fI H0 cQ ro D ops.size) (lk (cQ i).F) (lk (cQ i).F'):=by
   cases hr:ro i with
   | false=>exact hR.zY hi hn hT hr
   | true=>
    rw[hR.xJ hr,hR.Qu i hr]
    funext jr
    by_cases h:lk (cQ i).F jr=none
    .rw[dB h h]
    .rw[fm (.inl h)]
     obtain⟨ob,bt⟩:=Option.ne_none_iff_exists'.1 h;rw[bt];exact hsub' jr ob bt
  refine⟨⟨bh,M',λ t s h=> ?_,by rw[hcont];exact hfr.1,?_⟩,by rw[l5];exact hdf,by rw[oT];exact hsz⟩
  .rw[hR.zX hi hn] at h
   have hold:∀ s,iI ops E0 cQ D ops.size t=some s->Rp (pD ops k0 cQ kk (λ j=>D j || j == i)) bh M' s (a.tmps.getD t undef):=λ s h=>by
    rw[<- hpeq];exact(gL t s h).more (λ n h=> .inl h) (λ n h=>hE'.old n λ h'=>hnewp n h' h) hE'.mem
   split at h
   .rename_i hd
    injection h with h;subst h;rw[hdst] at hd;rw[hd,u_ (by rw[hsz];exact hR.Qt i t (by rw[hdst,hd]))];exact hu
   .rename_i hne
    rw[hdst] at hne;cases hod:o.dst with
    | none=>exact hold s h
    | some d=>rw[pR (λ e=>hne (by rw[hod,e]))];exact hold s h
  .rw[hcont]
   have:=hE.trans hfr.2
   rwa [hneq] at this
theorem Inv.congr {cq:Nat->Nm}{M0:Mem}{w0:World}{df:List Deferred}{D D':Nat->Bool}{a:Act}{w:World}(h:Inv ops N E0 H0 k0 cQ ro kk cq M0 w0 df D a w)(hD:∀ j,j<ops.size->D j=D' j):Inv ops N E0 H0 k0 cQ ro kk cq M0 w0 df D' a w:=by
 have e1:iI ops E0 cQ D ops.size=iI ops E0 cQ D' ops.size:=funext λ t=>fU λ i hi=>by rw[hD i hi]
 have e2:fI H0 cQ ro D ops.size=fI H0 cQ ro D' ops.size:=funext λ t=>fU λ i hi=>by rw[hD i hi]
 have e3:ur ops cQ kk D=ur ops cQ kk D':=funext λ n=>propext ⟨λ ⟨j,h1,h2,h3⟩=>⟨j,h1,by rw[<- hD j h1];exact h2,h3⟩,λ ⟨j,h1,h2,h3⟩=>⟨j,h1,by rw[hD j h1];exact h2,h3⟩⟩
 have e4:pD ops k0 cQ kk D=pD ops k0 cQ kk D':=by unfold pD;rw[e3]
 obtain⟨⟨μ,M,h1,h2,h3⟩,h4,h5⟩:=h;rw[e1,e4] at h1;rw[e4,e2] at h2;rw[e3,e2] at h3;exact⟨⟨μ,M,h1,h2,h3⟩,h4,h5⟩
def iO (listed:Array Bool):Nat->Nat
 | 0=>0
 | n+1=>iO listed n+if listed.getD n true then 0 else 1
theorem qG {listed:Array Bool}{i:Nat}(hu:listed.getD i true=false):∀ n,iO (listed.setIfInBounds i true) n+(if i<n then 1 else 0)=iO listed n
 | 0=>by simp[iO]
 | n + 1=>by
  have ih:=qG hu n;simp only[iO]
  by_cases hn:n=i
  .subst hn
   have hlt:n<listed.size:=by
    rcases Nat.lt_or_ge n listed.size with h|h
    .exact h
    .simp[Array.getElem?_eq_none h] at hu
   have h1:(listed.setIfInBounds n true).getD n true=true:=by simp[hlt]
   rw[h1,hu];simp at ih ⊢;omega
  .rw[getD_set_ne true (Ne.symm hn)]
   by_cases hlt:i<n
   .simp[hlt] at ih
    simp[show i<n+1 by omega];omega
   .simp[hlt] at ih
    simp[show ¬ i<n+1 by omega];omega
theorem oU {listed:Array Bool}:∀ {n:Nat},iO listed n=0->∀ j,j<n->listed.getD j true=true
 | 0,_,j,h=>by omega
 | n +1,h,j,hj=>by
  simp only[iO] at h
  by_cases hn:j=n
  .subst hn
   cases hh:listed.getD j true with
   | true=>rfl
   | false=>rw[hh] at h;simp at h
  .exact oU (n:=n) (by omega) j (by omega)
theorem qH {listed:Array Bool}{n:Nat}(h:∀ j,j<n->listed.getD j true=true):iO listed n=0:=by
 induction n with
 | zero=>rfl
 | succ n ih=>simp only[iO,h n (by omega),ih λ j hj=>h j (by omega)];rfl
theorem xL (hb:okB ops bs=true){listed:Array Bool}(hsz:listed.size=ops.size)(h:Region.ready .any ops listed=[]):∀ j,j<ops.size->listed.getD j true=true:=by
 intro j
 induction j using Nat.strongRecOn with
 | _ j ih=>
  intro hj;cases hl:listed.getD j true with
  | true=>rfl
  | false=>
   exfalso
   have:j∈Region.ready .any ops listed:=mem_ready.2 ⟨hl,ops[j],Array.getElem?_eq_getElem hj,λ e he hbd=>by
    simp only[okB,Bool.and_eq_true] at hb;have h2:=List.all_eq_true.1 hb.2 j (List.mem_range.2 hj);rw[Array.getElem?_eq_getElem hj] at h2;simp only[Option.map_some,Option.getD_some] at h2;have h3:=Array.all_eq_true_iff_forall_mem.1 h2 e he;simp only[hbd,Bool.not_true,Bool.false_or,decide_eq_true_eq] at h3;have h4:=ih e.on h3 (by omega);have hlt:e.on<listed.size:=by omega
    simp[hlt] at h4 ⊢;exact h4⟩
   rw[h] at this;cases this
theorem RG.drawn {rd:Option Nat}(hR:RG P ops bs N E0 H0 k0 cQ ro kk)(hb:okB ops bs=true)
  (hs:∀ (i:Nat) (o:Oper),ops[i]? =some o->sR P ops (iI ops E0 cQ (λ _=>true) i) (fI H0 cQ ro (λ _=>true) i) (kk i) o (cQ i))
  {cq:Nat->Nm} {M0:Mem} {w0:World} {df:List Deferred} {Q:Exit->Act->World->Prop} (hQ:∀ a w,Inv ops N E0 H0 k0 cQ ro kk cq M0 w0 df (λ _=>true) a w->Q .normal a w):
  ∀ (fuel:Nat) (listed:Array Bool) (a:Act) (w:World),listed.size=ops.size->iO listed ops.size=fuel->u9 ops (λ j=>listed.getD j false)->Inv ops N E0 H0 k0 cQ ro kk cq M0 w0 df (λ j=>listed.getD j false) a w->
   wpAnyIn (jX rd) 0 P .any ops Q fuel listed a w:=by
 have same:∀ (listed:Array Bool),listed.size=ops.size->∀ j,j<ops.size->listed.getD j true=listed.getD j false:=λ listed hl j hj=>by simp[show j<listed.size by omega]
 intro fuel
 induction fuel with
 | zero=>
  intro listed a w hl hcnt hc hI;have hall:=oU hcnt;refine⟨?_,hQ a w (hI.congr λ j hj=>by rw[<- same listed hl j hj];exact hall j hj)⟩;refine List.eq_nil_iff_forall_not_mem.2 λ i hi=> ?_
  obtain⟨h1,o,h2,_⟩:=mem_ready.1 hi;rw[hall i (Array.getElem?_eq_some_iff.1 h2).1] at h1;cases h1
 | succ fuel ih=>
  intro listed a w hl hcnt hc hI;refine⟨λ h=> ?_,λ i hi=> ?_⟩
  .have:=qH (xL hb hl h)
   omega
  .obtain⟨h1,o,h2,h3⟩:=mem_ready.1 hi
   have hi':i<ops.size:=(Array.getElem?_eq_some_iff.1 h2).1;have hn:listed.getD i false=false:=by rw[<- same listed hl i hi'];exact h1
   have hp:CO ops (λ j=>listed.getD j false) i:=λ o' ho' e he hbd=>by
    rw[h2] at ho';injection ho' with ho';subst ho';exact h3 e he hbd
   refine wpOpIn_mono (λ a' w' hI'=> ?_) (hR.step h2 hn (λ j hj hji ho=>Pp hb hc hi' hj hn hp ho) (hs i o h2) hI);have hD:∀ j,(listed.getD j false || j == i)=(listed.setIfInBounds i true).getD j false:=λ j=>by
    by_cases hji:j=i
    .subst hji
     simp[show j<listed.size by omega]
    .rw[getD_set_ne false (Ne.symm hji)]
     simp[beq_eq_false_iff_ne.2 hji]
   refine ih (listed.setIfInBounds i true) a' w' (by simpa using hl) (by have:=qG h1 ops.size;simp[hi'] at this;omega) (λ j o' hDj ho' e he hbd=> ?_) (hI'.congr λ j _=>hD j);simp only[<- hD] at hDj ⊢;simp only[Bool.or_eq_true,beq_iff_eq] at hDj;rcases hDj with h|rfl
   .simp[hc j o' h ho' e he hbd]
   .rw[h2] at ho';injection ho' with ho';subst ho'
    have:=h3 e he hbd;simp[this]
theorem RG.Jf {rd:Option Nat}(hR:RG P ops bs N E0 H0 k0 cQ ro kk)
  (hs:∀ (i:Nat) (o:Oper),ops[i]? =some o->sR P ops (iI ops E0 cQ (λ _=>true) i) (fI H0 cQ ro (λ _=>true) i) (kk i) o (cQ i))
  {cq:Nat->Nm} {M0:Mem} {w0:World} {df:List Deferred} {Q:Exit->Act->World->Prop} (hQ:∀ a w,Inv ops N E0 H0 k0 cQ ro kk cq M0 w0 df (λ _=>true) a w->Q .normal a w):
  ∀ (m k:Nat) (a:Act) (w:World),k+m=ops.size->Inv ops N E0 H0 k0 cQ ro kk cq M0 w0 df (λ j=>decide (j<k)) a w->wpOpsIn (jX rd) 0 P ops Q (List.range' k m) a w:=by
 intro m
 induction m with
 | zero=>
  intro k a w hk hI;simp only[List.range',wpOpsIn];exact hQ a w (hI.congr λ j hj=>by simp;omega)
 | succ m ih=>
  intro k a w hk hI;rw[List.range'_succ,wpOpsIn_cons];have hkn:k<ops.size:=by omega
  refine wpOpIn_mono (λ a' w' hI'=> ?_) (hR.step (Array.getElem?_eq_getElem hkn) (by simp) (λ j _ _ _=>rfl) (hs k _ (Array.getElem?_eq_getElem hkn)) hI);exact ih (k+1) a' w' (by omega) (hI'.congr λ j _=>by
   by_cases h1:j=k
   .subst h1;simp
   .simp[beq_eq_false_iff_ne.2 h1];omega)
end
end
section
def jZ (P:Program)(f:FuncId):Bool:=
 match P.funcs[f]? with
 | some fn=>fn.name != "runtime.NumGoroutine" && fn.body.isSome
 | none=>false
def SC (P:Program)(f:FuncId)(args:List SV)(F:Hp)(k nk:Nat)(Q:SV->Hp->Prop):Prop:=
 jZ P f=true/\
 ∀ (p:Nat->Prop) (μ:Nat->Nm) (M:Mem) (w:World) (vals:Array Value),(∀ n,(k<=n/\n<k+nk)-> ¬ p n)->aS p μ M args vals.toList->bR p μ M (lk F) w->
  Calls P f vals w λ e w'=>∃ r F' bh M' u,e= .returned u/\Q r F'/\Rp (λ n=>p n\/(k<=n/\n<k+nk)) bh M' r u/\bR (λ n=>p n\/(k<=n/\n<k+nk)) bh M' (lk F') w'/\
   Ev (lk F) (λ n=>k<=n/\n<k+nk) μ M w (lk F') bh M' w'
def aH (P:Program)(f:FuncId)(args:List SV)(F:Hp)(k nk:Nat)(v:SV)(F':Hp):Prop:=SC P f args F k nk λ r h=>r=v/\h=F'
theorem SC.mono {P:Program}{f:FuncId}{args:List SV}{F:Hp}{k nk:Nat}{Q Q':SV->Hp->Prop}(h:SC P f args F k nk Q)(hq:∀ r F',Q r F'->Q' r F'):SC P f args F k nk Q':=
 ⟨h.1,λ p μ M w vals h1 h2 h3=>(h.2 p μ M w vals h1 h2 h3).mono λ e w' ⟨r,F',bh,M',u,a,b,c⟩=>⟨r,F',bh,M',u,a,hq r F' b,c⟩⟩
def Fz (P:Program)(l:Nat)(vals:Array Value)(w:World)(R:Ending->World->Prop):Prop:=
 ∃ fn tmps assign body,(Instr.yield l vals).run P w= .ok (.round l fn tmps assign body) w/\RoundIn (jX none) 0 P l fn tmps assign body w R
def SY (P:Program)(nl:Nat)(args:List SV)(F:Hp)(k nk:Nat)(Q:SV->Hp->Prop):Prop:=
 ∀ (p:Nat->Prop) (μ:Nat->Nm) (M:Mem) (w:World) (vals:Array Value),(∀ n,(k<=n/\n<k+nk)-> ¬ p n)->p nl->aS p μ M args vals.toList->bR p μ M (lk F) w->
  Fz P (μ nl).blk vals w λ e w'=>∃ r F' bh M' u,e= .returned u/\Q r F'/\Rp (λ n=>p n\/(k<=n/\n<k+nk)) bh M' r u/\bR (λ n=>p n\/(k<=n/\n<k+nk)) bh M' (lk F') w'/\
   Ev (lk F) (λ n=>k<=n/\n<k+nk) μ M w (lk F') bh M' w'
def NW (P:Program)(nl:Nat)(args:List SV)(F:Hp)(k nk:Nat)(v:SV)(F':Hp):Prop:=SY P nl args F k nk λ r h=>r=v/\h=F'
section
variable {P:Program}
theorem nF {w:World}{f:FuncId}(h:jZ P f=true)(args:Array Value):(callFunc f args).run P w= .ok (.enter f args) w:=by
 unfold jZ at h
 split at h<;>try (cases h;done)
 rename_i fn hf;simp only[Bool.and_eq_true,bne_iff_ne,ne_eq] at h;obtain⟨c,hc⟩:=Option.isSome_iff_exists.1 h.2;simp[callFunc,hf,h.1,hc]
theorem yN {o:Oper}{E:Nat->Option SV}{c:Call}{fo:Operand}{f':X}{as':List X}{fid:FuncId}{first cap as:List SV}{F:Hp}{k nk:Nat}{Q:SV->Hp->Prop}
  (ho:o.op= .call c) (bW:c.callee= .value fo) (hf:cX fo=some f') (ha:E8 c.args.toList=some as') (h1:ev E f'=some (.fn (.func fid) first cap)) (h2:qu E as'=some as)
  (E_:SC P fid (first++as++cap) F k nk Q) {rd:Option Nat} {p:Nat->Prop} {μ:Nat->Nm} {M:Mem} {a:Act} {w:World} {K:Act->World->Prop} {QQ:Exit->Act->World->Prop} (hnew:∀ n,(k<=n/\n<k+nk)-> ¬ p n)
  (hk:iG E o.op.operands p μ M a) (hS:bR p μ M (lk F) w)
  (hK:∀ r F' u bh M' w',Q r F'->Rp (λ n=>p n\/(k<=n/\n<k+nk)) bh M' r u->bR (λ n=>p n\/(k<=n/\n<k+nk)) bh M' (lk F') w'->Ev (lk F) (λ n=>k<=n/\n<k+nk) μ M w (lk F') bh M' w'->K (a.put o.dst u) w'):
  o.wpIn (jX rd) 0 P a w K QQ:=by
 have hin:fo∈o.op.operands:=by simp[ho,Op.operands,Call.operands,bW]
 have hin2:∀ x∈c.args.toList,x∈o.op.operands:=λ x hx=>by
  rw[ho];simp only[Op.operands,Call.operands,bW,Array.mem_append];exact .inr (by simpa using hx)
 obtain⟨fs,cs,e1,r1,r2⟩:=Rp.sI.1 (hk.get hin hf h1);have r3:=hk.yJ hin2 ha h2;have hargs:aS p μ M (first++as++cap) (fs++c.args.map a.eval++cs).toList:=by
  simpa using(r1.append r3).append r2
 have hrun:(execOp a.eval o).run P w= .ok (.enter fid (fs++c.args.map a.eval++cs)) w:=by
  simp only[execOp,ho,resolve,bW,e1,Deferred.ofValue,Sem.run_bind,Sem.run_pure,Result.andThen_ok,invoke,nF E_.1]
 refine⟨λ _ _=>trivial,?_⟩;rw[pO (λ d e=>by cases e) hrun,Oper.uponIn_enter];refine⟨(λ h=>by cases h),sK.2 ?_⟩;refine(E_.2 p μ M w _ hnew hargs hS).mono ?_;rintro e w' ⟨r,F',bh,M',u,rfl,hq,hr,sJ,hE⟩;exact hK r F' u bh M' w' hq hr sJ hE
theorem zZ {o:Oper}{E:Nat->Option SV}{c:Call}{fo:Operand}{f':X}{as':List X}{nl:Nat}{as:List SV}{F:Hp}{k nk:Nat}{Q:SV->Hp->Prop}
  (ho:o.op= .call c) (bW:c.callee= .value fo) (hf:cX fo=some f') (ha:E8 c.args.toList=some as') (h1:ev E f'=some (.yl nl)) (h2:qu E as'=some as) (hF:lk F nl≠none)
  (E_:SY P nl as F k nk Q) {rd:Option Nat} {p:Nat->Prop} {μ:Nat->Nm} {M:Mem} {a:Act} {w:World} {K:Act->World->Prop} {QQ:Exit->Act->World->Prop} (hnew:∀ n,(k<=n/\n<k+nk)-> ¬ p n)
  (hk:iG E o.op.operands p μ M a) (hS:bR p μ M (lk F) w)
  (hK:∀ r F' u bh M' w',Q r F'->Rp (λ n=>p n\/(k<=n/\n<k+nk)) bh M' r u->bR (λ n=>p n\/(k<=n/\n<k+nk)) bh M' (lk F') w'->Ev (lk F) (λ n=>k<=n/\n<k+nk) μ M w (lk F') bh M' w'->K (a.put o.dst u) w'):
  o.wpIn (jX rd) 0 P a w K QQ:=by
 have hin:fo∈o.op.operands:=by simp[ho,Op.operands,Call.operands,bW]
 have hin2:∀ x∈c.args.toList,x∈o.op.operands:=λ x hx=>by
  rw[ho];simp only[Op.operands,Call.operands,bW,Array.mem_append];exact .inr (by simpa using hx)
 have e1:a.eval fo= .func (.yield (μ nl).blk) #[] #[]:=by simpa[cW] using(hk.get hin hf h1).rep
 have r3:=hk.yJ hin2 ha h2;have hargs:aS p μ M as (c.args.map a.eval).toList:=by simpa using r3
 obtain⟨ob,bt⟩:=Option.ne_none_iff_exists'.1 hF;obtain⟨fn,tmps,assign,body,hy,hround⟩:=E_ p μ M w _ hnew (hS.obs nl ob bt).1 hargs hS;have hrun:(execOp a.eval o).run P w= .ok (.round (μ nl).blk fn tmps assign body) w:=by
  simp only[execOp,ho,resolve,bW,e1,Deferred.ofValue,Sem.run_bind,Sem.run_pure,Result.andThen_ok,invoke]
  simpa using hy
 refine⟨λ _ _=>trivial,?_⟩;rw[pO (λ d e=>by cases e) hrun,Oper.uponIn_round];refine⟨(λ h=>by cases h),RoundIn.mono (show RoundIn (jX rd) (0 - 1) P _ _ _ _ _ _ _ from hround) ?_⟩;rintro e w' ⟨r,F',bh,M',u,rfl,hq,hr,sJ,hE⟩;exact hK r F' u bh M' w' hq hr sJ hE
structure SI where
 dst:Option Nat
 op:SO
 g:Option (Nat×Bool)
def qx (P:Program)(ops:Array Oper)(o:Oper):Option SI:=
 match cO P o.op with
 | some so=>match o.guard with
  | none=>some ⟨o.dst,so,none⟩
  | some (j,w)=>match gD ops j with
   | some t=>some ⟨o.dst,so,some (t,w)⟩
   | none=>none
 | none=>none
def va (P:Program)(ops:Array Oper):List Oper->Option (List SI)
 | []=>some []
 | o::r=>match qx P ops o,va P ops r with
  | some s,some ss=>some (s::ss)
  | _,_=>none
structure St where
 env:List (Nat×SV)
 hp:Hp
 k:Nat
inductive CR where
 | own
 | iJ
 | call (F:Hp) (v:SV) (F':Hp) (nk:Nat)
 | P9 (pt:FuncId->List SV->Option SV)
def HSub (F h:Hp):Prop:=∀ n ob,lk F n=some ob->lk h n=some ob
def fA (P:Program)(st:St)(so:SO)(dK:List CR):Option (mH×List CR):=
 match so with
 | .call f args=>match ev (λ t=>st.env.lookup t) f,qu (λ t=>st.env.lookup t) args,dK with
  | some (.fn (.func fid) first cap),some as,.call F v F' nk::crs'=>some (⟨v,F,F',nk,aH P fid (first++as++cap) F st.k nk v F'/\HSub F st.hp⟩,crs')
  | some (.fn (.func fid) first cap),some as,.P9 pt::crs'=>match pt fid (first++as++cap) with
   | some v=>some (⟨v,[],[],0,aH P fid (first++as++cap) [] st.k 0 v []/\HSub [] st.hp⟩,.P9 pt::crs')
   | none=>none
  | some (.yl nl),some as,.call F v F' nk::crs'=>some (⟨v,F,F',nk,NW P nl as F st.k nk v F'/\lk F nl≠none/\HSub F st.hp⟩,crs')
  | _,_,_=>none
 | .mK e sz len z parts=>match dK with
  | .own::crs'=>match dI (λ t=>st.env.lookup t) (lk st.hp) st.k true (.mK e sz len z parts) with
   | some e=>some (e,crs')
   | none=>none
  | .iJ::crs'=>match dI (λ t=>st.env.lookup t) (lk st.hp) st.k false (.mK e sz len z parts) with
   | some e=>some (e,crs')
   | none=>none
  | dK=>match dI (λ t=>st.env.lookup t) (lk st.hp) st.k false (.mK e sz len z parts) with
   | some e=>some (e,dK)
   | none=>none
 | so=>match dI (λ t=>st.env.lookup t) (lk st.hp) st.k false so with
  | some e=>some (e,dK)
  | none=>none
def gd (P:Program)(st:St)(si:SI)(dK:List CR):Option (mH×List CR):=
 match si.g with
 | none=>fA P st si.op dK
 | some (t,w)=>match st.env.lookup t with
  | some (.d (.bool b))=>if b == w then fA P st si.op dK else some (⟨.dL [],[],[],0,True⟩,dK)
  | some (.dL [])=>some (⟨.dL [],[],[],0,True⟩,dK)
  | _=>none
def gJ:Hp->Nat->Ob->Hp
 | [],n,ob=>[(n,ob)]
 | (m,o)::h,n,ob=>if m=n then (n,ob)::h else (m,o)::gJ h n ob
def gf (h:Hp)(n:Nat)(ob:Ob):Hp:=match lk h n with
 | some _=>gJ h n ob
 | none=>(n,ob)::h
def c_:Hp->Nat->Hp
 | [],n=>[]
 | (m,o)::h,n=>if m=n then c_ h n else (m,o)::c_ h n
def de (h:Hp):Hp->Hp
 | []=>h
 | (n,ob)::r=>gf (de h r) n ob
def dg (h:Hp)(F':Hp):Hp->Hp
 | []=>h
 | (n,_)::r=>if (lk F' n).isSome then dg h F' r else c_ (dg h F' r) n
def bU (ro:Bool)(h F F':Hp):Hp:=if ro then h else de (dg h F' F) F'
theorem uF:∀ (h:Hp) (n:Nat) (ob:Ob) (m:Nat),lk (gJ h n ob) m=if m=n then some ob else lk h m
 | [],n,ob,m=>by simp only[gJ];rw[cI];rfl
 | (q, o)::h,n,ob,m=>by
  simp only[gJ]
  split
  .rename_i e
   subst e;rw[af,af]
   split<;>rfl
  .rename_i e
   rw[af,af,uF h n ob m]
   by_cases h2:m=n
   .subst h2
    have:m≠q:=λ h=>e h.symm
    simp[this]
   .simp[h2]
theorem rI (h:Hp)(n:Nat)(ob:Ob)(m:Nat):lk (gf h n ob) m=if m=n then some ob else lk h m:=by
 unfold gf
 split
 .exact uF h n ob m
 .have:lk ((n,ob)::h) m=if m=n then some ob else lk h m:=by
   unfold lk;simp only[List.lookup]
   by_cases e:m=n
   .subst e;simp
   .rw[if_neg e,show(m == n)=false by simpa using e]
  exact this
theorem dx:∀ (h:Hp) (n m:Nat),lk (c_ h n) m=if m=n then none else lk h m
 | [],n,m=>by simp[c_,bA]
 | (q, o)::h,n,m=>by
  simp only[c_]
  split
  .rename_i e
   subst e;rw[dx h q m,af]
   split<;>rfl
  .rename_i e
   rw[af,af,dx h n m]
   by_cases h2:m=n
   .subst h2
    have:m≠q:=λ h=>e h.symm
    simp[this]
   .simp[h2]
theorem z_ (h:Hp):∀ (F':Hp) (m:Nat),lk (de h F') m=match lk F' m with
  | some ob=>some ob
  | none=>lk h m
 | [],m=>by simp[de,bA]
 | (n,ob)::r,m=>by
  simp only[de];rw[rI,z_ h r m,af]
  by_cases h1:m=n<;>simp[h1]
theorem vb (h F':Hp):∀ (F:Hp) (m:Nat),lk (dg h F' F) m=if (lk F m).isSome && (lk F' m).isNone then none else lk h m
 | [],m=>by simp[dg,bA]
 | (n, ob)::r,m=>by
  simp only[dg]
  split
  .rename_i h1
   rw[vb h F' r m,af]
   by_cases h2:m=n
   .subst h2
    have:(lk F' m).isNone=false:=by
     cases hh:lk F' m with
     | none=>rw[hh] at h1;cases h1
     | some _=>rfl
    simp[this]
   .simp[h2]
  .rename_i h1
   rw[dx,vb h F' r m,af]
   by_cases h2:m=n
   .subst h2
    simp at h1;simp[h1]
   .simp[h2]
theorem iM {ro:Bool}{h F F':Hp}(hs:HSub F h)(hr:ro=true->F'=F):lk (bU ro h F F')=Bm (lk h) (lk F) (lk F'):=by
 funext m
 unfold bU;cases ro with
 | true=>
  rw[hr rfl]
  by_cases h1:lk F m=none
  .rw[dB h1 h1];rfl
  .rw[fm (.inl h1)]
   obtain⟨ob,bt⟩:=Option.ne_none_iff_exists'.1 h1;rw[bt];exact hs m ob bt
 | false=>
  simp only[Bool.false_eq_true,if_false];rw[z_,vb];cases h1:lk F' m with
  | some ob=>rw[fm (.inr (by rw[h1];simp))];simp[h1]
  | none=>
   cases h2:lk F m with
   | some ob=>rw[fm (.inl (by rw[h2];simp))];simp[h1]
   | none=>rw[dB h2 h1];simp
def l6 (st:St)(si:SI)(e:mH):St:=
 ⟨match si.dst with|some d=>(d,e.v)::st.env|none=>st.env,bU (dh si.op) st.hp e.F e.F',st.k+e.nk⟩
def iC (si:SI)(e:mH):Bool×List Nat:=(dh si.op,e.F.map (·.1)++e.F'.map (·.1))
def runs (P:Program):List SI->St->List CR->Option (St×Prop×List (Bool×List Nat))
 | [],st,_=>some (st,True,[])
 | si::r,st,dK=>match gd P st si dK with
  | some (e,crs')=>match runs P r (l6 st si e) crs' with
   | some (st',ob,ts)=>some (st',e.ob/\ob,iC si e::ts)
   | none=>none
  | none=>none
def mA (bs:List Nat)(ts:List (Bool×List Nat)):Bool:=
 zW ts.length λ i j=>i == j || (ts.getD i (true,[])).1 || !((ts.getD i (true,[])).2.any λ n=>(ts.getD j (true,[])).2.contains n) || gU bs i j || gU bs j i
def oD (n:Nat):List Nat:=(List.range n).map λ j=>2 ^ j - 1
def trace (P:Program):List SI->St->List CR->List mH
 | [],_,_=>[]
 | si::r,st,dK=>match gd P st si dK with
  | some (e,crs')=>e::trace P r (l6 st si e) crs'
  | none=>[]
def j3:List SI->St->List mH->Nat->St
 | si::r,st,e::es,i+1=>j3 r (l6 st si e) es i
 | _,st,_,_=>st
theorem rJ {st':St}:∀ {cZ:List SI} {st:St} {dK:List CR} {ob:Prop} {ts:List (Bool×List Nat)},runs P cZ st dK=some (st',ob,ts)->(trace P cZ st dK).length=cZ.length/\ts=(List.zipWith iC cZ (trace P cZ st dK))/\
  (ob->∀ e∈trace P cZ st dK,e.ob)/\st'=j3 cZ st (trace P cZ st dK) cZ.length
 | [],st,dK,ob,ts,h=>by
  simp[runs] at h;obtain⟨rfl,_,rfl⟩:=h;simp[trace,j3]
 | si::r,st,dK,ob,ts,h=>by
  simp only[runs] at h
  split at h<;>try (cases h;done)
  rename_i e crs' he
  split at h<;>try (cases h;done)
  rename_i st2 I1 ts2 h2;simp only[Option.some.injEq,Prod.mk.injEq] at h;obtain⟨rfl,rfl,rfl⟩:=h;obtain⟨a1,a2,a3,a4⟩:=rJ h2;simp only[trace,he];refine⟨by simp[a1],by simp[<- a2],λ h e' he'=> ?_,by simpa[j3] using a4⟩;rcases List.mem_cons.1 he' with rfl|he'
  .exact h.1
  .exact a3 h.2 e' he'
theorem pS:∀ (cZ:List SI) (st:St) (es:List mH) (i:Nat) (si:SI) (e:mH),cZ[i]? =some si->es[i]? =some e->j3 cZ st es (i+1)=l6 (j3 cZ st es i) si e
 | [],st,es,i,si,e,h,_=>by simp at h
 | si'::r,st,[],i,si,e,_,h=>by simp at h
 | si'::r,st,e'::es,0,si,e,h1,h2=>by
  simp at h1 h2;subst h1;subst h2;cases r<;>cases es<;>simp[j3]
 | si'::r,st,e'::es,i+1,si,e,h1,h2=>by
  simp only[j3];exact pS r _ es i si e (by simpa using h1) (by simpa using h2)
theorem vc:∀ {cZ:List SI} {st:St} {dK:List CR} {i:Nat} {si:SI} {e:mH},cZ[i]? =some si->(trace P cZ st dK)[i]? =some e->∃ c1 c2,gd P (j3 cZ st (trace P cZ st dK) i) si c1=some (e,c2)
 | [],st,dK,i,si,e,h,_=>by simp at h
 | si'::r,st,dK,i,si,e,h1,h2=>by
  simp only[trace] at h2 ⊢
  split at h2<;>first|(simp at h2;done)|skip
  rename_i e' crs' he;cases i with
  | zero=>
   simp at h1 h2;subst h1;subst h2;exact⟨dK,crs',by simpa[j3] using he⟩
  | succ i=>
   obtain⟨c1,c2,h⟩:=vc (cZ:=r) (st:=l6 st si' e') (dK:=crs') (i:=i) (by simpa using h1) (by simpa using h2);exact⟨c1,c2,by simpa[j3] using h⟩
theorem nG (env:List (Nat×SV))(d:Nat)(v:SV)(t:Nat):((d,v)::env).lookup t=if d=t then some v else env.lookup t:=by
 simp only[List.lookup]
 by_cases h:t=d
 .subst h;simp
 .rw[show(t == d)=false by simpa using h,if_neg (Ne.symm h)]
theorem L5 {E:Nat->Option SV}{H:Nat->Option Ob}{k:Nat}{own:Bool}{so:SO}{e:mH}(h:dI E H k own so=some e)(hr:dh so=true):e.F'=e.F:=by
 cases so<;>simp only[dh,Bool.false_eq_true] at hr<;>simp only[dI] at h <;>
  (repeat' (first|(cases h;done)|(injection h with h;subst h;rfl)|split at h))
theorem rK {op:Op}{f:X}{args:List X}(hc:cO P op=some (.call f args)):∃ c fo,op= .call c/\c.callee= .value fo/\cX fo=some f/\E8 c.args.toList=some args:=by
 cases op<;>simp only[cO] at hc<;>try (cases hc;done)
 case call c=>
  refine⟨c,?_⟩;cases bW:c.callee with
  | value fo=>
   simp only[bW] at hc
   split at hc<;>try (cases hc;done)
   rename_i f' as' hf ha;injection hc with hc;injection hc with hc1 IP;subst hc1;subst IP;exact⟨fo,rfl,rfl,hf,ha⟩
  | invoke _ _=>simp[bW] at hc
  | builtin b=>
   exfalso
   simp only[bW] at hc
   repeat' (first|contradiction|(cases hc;done)|split at hc)
 all_goals (repeat' (first|contradiction|(cases hc;done)|(obtain⟨_,_,hh⟩:=Option.map_eq_some_iff.1 hc;cases hh;done)|split at hc))
theorem ve {ops:Array Oper}{o:Oper}{st:St}{so:SO}{c1 c2:List CR}{e:mH}(hc:cO P o.op=some so)(h:fA P st so c1=some (e,c2))(bt:e.ob):
  Sound P o (λ t=>st.env.lookup t) (lk st.hp) st.k e/\(dh so=true->e.F'=e.F):=by
 have plain:∀ (own:Bool) (c:List CR),dI (λ t=>st.env.lookup t) (lk st.hp) st.k own so=some e->Sound P o (λ t=>st.env.lookup t) (lk st.hp) st.k e/\(dh so=true->e.F'=e.F):=λ own c hs=>
  ⟨DP hc hs bt,L5 hs⟩
 unfold fA at h
 split at h
 .rename_i f args
  split at h<;>try (cases h;done)
  .rename_i fid first cap as F v F' nk crs' h1 h2
   injection h with h;injection h with h h';subst h;subst h';obtain⟨E_,hsub⟩:=bt;refine⟨⟨?_,hsub⟩,λ hr=>by simp[dh] at hr⟩;obtain⟨c,fo,hop,bW,hf,ha⟩:=rK hc;intro rd p μ M a w K Q hnew hk hS hK;exact yN hop bW hf ha h1 h2 E_ hnew hk hS λ r F'' u bh M' w' ⟨e1,e2⟩ hr sJ hE=>by
    subst e1;subst e2;exact hK u bh M' w' hr sJ hE
  .rename_i fid first cap as pt crs' h1 h2
   split at h<;>try (cases h;done)
   rename_i v hv;injection h with h;injection h with h h';subst h;subst h';obtain⟨E_,hsub⟩:=bt;refine⟨⟨?_,hsub⟩,λ hr=>by simp[dh] at hr⟩;obtain⟨c,fo,hop,bW,hf,ha⟩:=rK hc;intro rd p μ M a w K Q hnew hk hS hK;exact yN hop bW hf ha h1 h2 E_ hnew hk hS λ r F'' u bh M' w' ⟨e1,e2⟩ hr sJ hE=>by
    subst e1;subst e2;exact hK u bh M' w' hr sJ hE
  .rename_i nl as F v F' nk crs' h1 h2
   injection h with h;injection h with h h';subst h;subst h';obtain⟨E_,hnl,hsub⟩:=bt;refine⟨⟨?_,hsub⟩,λ hr=>by simp[dh] at hr⟩;obtain⟨c,fo,hop,bW,hf,ha⟩:=rK hc;intro rd p μ M a w K Q hnew hk hS hK;exact zZ hop bW hf ha h1 h2 hnl E_ hnew hk hS λ r F'' u bh M' w' ⟨e1,e2⟩ hr sJ hE=>by
    subst e1;subst e2;exact hK u bh M' w' hr sJ hE
 .split at h
  .split at h<;>try (cases h;done)
   rename_i hs;injection h with h;injection h with h h';subst h;exact plain true [] hs
  all_goals
   split at h<;>try (cases h;done)
   rename_i hs;injection h with h;injection h with h h';subst h;exact plain false [] hs
 .split at h<;>try (cases h;done)
  rename_i hs;injection h with h;injection h with h h';subst h;exact plain false [] hs
def Jg (ops:Array Oper)(draw:Bool):List Nat:=if draw then (Region.before ops).toList else oD ops.size
def FA (P:Program)(N:Nat)(ops:Array Oper)(draw:Bool):Option (List SI×List Nat):=
 match va P ops ops.toList with
 | some cZ=>
  if ((!draw || okB ops (Jg ops draw)) && CN ops (Jg ops draw) && (cZ.all λ s=>match s.dst with|some d=>decide (d<N)|none=>true))=true then some (cZ,Jg ops draw) else none
 | none=>none
theorem nH {ops:Array Oper}:∀ {l:List Oper} {cZ:List SI},va P ops l=some cZ->l.length=cZ.length/\∀ (i:Nat) (o:Oper),l[i]? =some o->∃ si,cZ[i]? =some si/\qx P ops o=some si
 | [],cZ,h=>by simp[va] at h;subst h;simp
 | o::l,cZ,h=>by
  simp only[va] at h
  split at h<;>try (cases h;done)
  rename_i s ss h1 h2;simp at h;subst h;obtain⟨a1,a2⟩:=nH h2;refine⟨by simp[a1],λ i o' hi=> ?_⟩;cases i with
  | zero=>simp at hi;subst hi;exact⟨s,rfl,h1⟩
  | succ i=>simpa using a2 i o' (by simpa using hi)
theorem xM {n i j:Nat}(hj:j<n)(hij:i<j):gU (oD n) i j=true:=by
 unfold gU oD;rw[List.getD_eq_getElem?_getD,List.getElem?_map,List.getElem?_range hj];simp only[Option.map_some,Option.getD_some];rw[Nat.testBit_two_pow_sub_one]
 simpa using hij
end
end
section
mutual
def SV.ok (q:Nat->Bool):SV->Bool
 | .d _=>true
 | .ptr n _=>q n
 | .gs n _=>q n
 | .vp _ _=>true
 | .bs n _ _=>q n
 | .mp n=>q n
 | .it n=>q n
 | .yl n=>q n
 | .fn _ a c=>SV.ax q a && SV.ax q c
 | .agg cs=>SV.ax q cs
 | .dL cs=>SV.ax q cs
 | .any=>true
def SV.ax (q:Nat->Bool):List SV->Bool
 | []=>true
 | c::cs=>SV.ok q c && SV.ax q cs
end
mutual
def SV.aC (ρ:Nat->Nat):SV->SV
 | .d x=> .d x
 | .ptr n o=> .ptr (ρ n) o
 | .gs n l=> .gs (ρ n) l
 | .vp cs i=> .vp cs i
 | .bs n o l=> .bs (ρ n) o l
 | .mp n=> .mp (ρ n)
 | .it n=> .it (ρ n)
 | .yl n=> .yl (ρ n)
 | .fn f a c=> .fn f (SV.aN ρ a) (SV.aN ρ c)
 | .agg cs=> .agg (SV.aN ρ cs)
 | .dL cs=> .dL (SV.aN ρ cs)
 | .any=> .any
def SV.aN (ρ:Nat->Nat):List SV->List SV
 | []=>[]
 | c::cs=>SV.aC ρ c::SV.aN ρ cs
end
mutual
theorem cW.congr {q:Nat->Bool}{μ ν:Nat->Nm}{M:Mem}(h:∀ n,q n=true->ν n=μ n):∀ (s:SV) (v:Value),s.ok q=true->cW μ M s v->cW ν M s v
 | .d x,v,_,hr=>by simpa[cW] using hr
 | .ptr n o,v,hq,hr=>by simp only[cW,SV.ok] at *;rw[h n hq];exact hr
 | .gs n l,v,hq,hr=>by simp only[cW,SV.ok] at *;rw[h n hq];exact hr
 | .vp cs i,v,_,hr=>by simpa[cW] using hr
 | .bs n _ _,v,hq,hr=>by simp only[cW,SV.ok] at *;rw[h n hq];exact hr
 | .mp n,v,hq,hr=>by simp only[cW,SV.ok] at *;rw[h n hq];exact hr
 | .it n,v,hq,hr=>by simp only[cW,SV.ok] at *;rw[h n hq];exact hr
 | .yl n,v,hq,hr=>by simp only[cW,SV.ok] at *;rw[h n hq];exact hr
 | .fn f a c,v,hq,hr=>by
  simp only[cW,SV.ok,Bool.and_eq_true] at*;obtain⟨as,cs,e,h1,h2⟩:=hr;exact⟨as,cs,e,cu.congr h a _ hq.1 h1,cu.congr h c _ hq.2 h2⟩
 | .agg cs,v,hq,hr=>by
  simp only[cW,SV.ok] at*;obtain⟨vs,e,h1⟩:=hr;exact⟨vs,e,cu.congr h cs _ hq h1⟩
 | .dL cs,v,hq,hr=>by
  simp only[cW,SV.ok] at*;obtain⟨vs,e,h1⟩:=hr;exact⟨vs,e,cu.congr h cs _ hq h1⟩
 | .any,_,_,_=>by simp[cW]
theorem cu.congr {q:Nat->Bool}{μ ν:Nat->Nm}{M:Mem}(h:∀ n,q n=true->ν n=μ n):∀ (s:List SV) (v:List Value),SV.ax q s=true->cu μ M s v->cu ν M s v
 | [],v,_,hr=>by simpa[cu] using hr
 | c::cs,v,hq,hr=>by
  simp only[cu,SV.ax,Bool.and_eq_true] at*;obtain⟨u,us,e,h1,h2⟩:=hr;exact⟨u,us,e,cW.congr h c u hq.1 h1,cu.congr h cs us hq.2 h2⟩
end
mutual
theorem cW.eZ {ρ:Nat->Nat}{μ:Nat->Nm}{M:Mem}:∀ (s:SV) (v:Value),cW μ M (s.aC ρ) v↔cW (λ n=>μ (ρ n)) M s v
 | .d x,v=>by simp[cW,SV.aC]
 | .ptr n o,v=>by simp[cW,SV.aC]
 | .gs n l,v=>by simp[cW,SV.aC]
 | .vp cs i,v=>by simp[cW,SV.aC]
 | .bs n _ _,v=>by simp[cW,SV.aC]
 | .mp n,v=>by simp[cW,SV.aC]
 | .it n,v=>by simp[cW,SV.aC]
 | .yl n,v=>by simp[cW,SV.aC]
 | .fn f a c,v=>by
  simp only[cW,SV.aC];constructor
  .rintro⟨as,cs,e,h1,h2⟩;exact⟨as,cs,e,(cu.eZ a _).1 h1,(cu.eZ c _).1 h2⟩
  .rintro⟨as,cs,e,h1,h2⟩;exact⟨as,cs,e,(cu.eZ a _).2 h1,(cu.eZ c _).2 h2⟩
 | .agg cs,v=>by
  simp only[cW,SV.aC];constructor
  .rintro⟨vs,e,h1⟩;exact⟨vs,e,(cu.eZ cs _).1 h1⟩
  .rintro⟨vs,e,h1⟩;exact⟨vs,e,(cu.eZ cs _).2 h1⟩
 | .dL cs,v=>by
  simp only[cW,SV.aC];constructor
  .rintro⟨vs,e,h1⟩;exact⟨vs,e,(cu.eZ cs _).1 h1⟩
  .rintro⟨vs,e,h1⟩;exact⟨vs,e,(cu.eZ cs _).2 h1⟩
 | .any,_=>by simp[cW,SV.aC]
theorem cu.eZ {ρ:Nat->Nat}{μ:Nat->Nm}{M:Mem}:∀ (s:List SV) (v:List Value),cu μ M (SV.aN ρ s) v↔cu (λ n=>μ (ρ n)) M s v
 | [],v=>by simp[cu,SV.aN]
 | c::cs,v=>by
  simp only[cu,SV.aN];constructor
  .rintro⟨u,us,e,h1,h2⟩;exact⟨u,us,e,(cW.eZ c u).1 h1,(cu.eZ cs us).1 h2⟩
  .rintro⟨u,us,e,h1,h2⟩;exact⟨u,us,e,(cW.eZ c u).2 h1,(cu.eZ cs us).2 h2⟩
end
theorem SV.yO {q:Nat->Bool}:∀ {cs:List SV},SV.ax q cs=true↔∀ c∈cs,c.ok q=true
 | []=>by simp[SV.ax]
 | c::cs=>by simp[SV.ax,SV.yO (cs:=cs)]
theorem SV.aW {q:Nat->Bool}(xs:List DV):SV.ax q (xs.map .d)=true:=by
 rw[SV.yO];intro c hc;obtain⟨x,_,rfl⟩:=List.mem_map.1 hc;rfl
theorem SV.dy {ρ:Nat->Nat}:∀ (xs:List DV),SV.aN ρ (xs.map .d)=xs.map .d
 | []=>rfl
 | x::xs=>by simp[SV.aN,SV.aC,SV.dy xs]
def Ob.ok (q:Nat->Bool):Ob->Bool
 | .box _ cs=>SV.ax q cs
 | .arr _ _ _ cs=>SV.ax q cs
 | .map es _=>es.all λ e=>e.2.1.ok q && e.2.2.ok q
 | .gz=>true
 | .iter mo _ _ _=>match mo with
  | some n=>q n
  | none=>true
 | .qo _ _ cs _ _ _ _ _=>SV.ax q cs
def Ob.aC (ρ:Nat->Nat):Ob->Ob
 | .box t cs=> .box t (SV.aN ρ cs)
 | .arr e sz len cs=> .arr e sz len (SV.aN ρ cs)
 | .map es c=> .map (es.map λ e=>(e.1,e.2.1.aC ρ,e.2.2.aC ρ)) c
 | .gz=> .gz
 | .iter mo a b c=> .iter (mo.map ρ) a b c
 | .qo N ts cs ps as bd st pe=> .qo N ts (SV.aN ρ cs) ps as bd st pe
def Hp.aC (ρ:Nat->Nat)(h:Hp):Hp:=h.map λ x=>(ρ x.1,x.2.aC ρ)
def Hp.ok (q:Nat->Bool)(h:Hp):Bool:=h.all λ x=>q x.1 && x.2.ok q
section
variable {p p':Nat->Prop} {μ ν:Nat->Nm} {M:Mem}
theorem Rp.FB {q:Nat->Bool}{s:SV}{v:Value}(hq:s.ok q=true)(hp:∀ n,q n=true->p n)(h:cW μ M s v):Rp p μ M s v:=
 λ ν ig=>cW.congr (λ n hn=>ig n (hp n hn)) s v hq h
theorem aS.CP {q:Nat->Bool}{s:List SV}{v:List Value}(hq:SV.ax q s=true)(hp:∀ n,q n=true->p n)(h:cu μ M s v):aS p μ M s v:=
 λ ν ig=>cu.congr (λ n hn=>ig n (hp n hn)) s v hq h
theorem Rp.to {q:Nat->Bool}{ρ:Nat->Nat}{s:SV}{v:Value}(hq:s.ok q=true)(hp:∀ n,q n=true->p n)(ig:∀ n,q n=true->ν n=μ (ρ n))(h:cW μ M (s.aC ρ) v):Rp p ν M s v:=
 Rp.FB hq hp (cW.congr ig s v hq ((cW.eZ s v).1 h))
theorem Rp.back {q:Nat->Bool}{ρ:Nat->Nat}{s:SV}{v:Value}(hq:s.ok q=true)(hp:∀ n,q n=true->p (ρ n))(ig:∀ n,q n=true->μ (ρ n)=ν n)(h:cW ν M s v):Rp p μ M (s.aC ρ) v:=
 λ bh hμ'=>(cW.eZ s v).2 (cW.congr (λ n hn=>(hμ' _ (hp n hn)).trans (ig n hn)) s v hq h)
theorem aS.to {q:Nat->Bool}{ρ:Nat->Nat}{s:List SV}{v:List Value}(hq:SV.ax q s=true)(hp:∀ n,q n=true->p n)(ig:∀ n,q n=true->ν n=μ (ρ n))(h:cu μ M (SV.aN ρ s) v):aS p ν M s v:=
 aS.CP hq hp (cu.congr ig s v hq ((cu.eZ s v).1 h))
theorem aS.back {q:Nat->Bool}{ρ:Nat->Nat}{s:List SV}{v:List Value}(hq:SV.ax q s=true)(hp:∀ n,q n=true->p (ρ n))(ig:∀ n,q n=true->μ (ρ n)=ν n)(h:cu ν M s v):aS p μ M (SV.aN ρ s) v:=
 λ bh hμ'=>(cu.eZ s v).2 (cu.congr (λ n hn=>(hμ' _ (hp n hn)).trans (ig n hn)) s v hq h)
theorem gA.to {q:Nat->Bool}{ρ:Nat->Nat}(hp:∀ n,q n=true->p n)(ig:∀ n,q n=true->ν n=μ (ρ n)):∀ (es:List (Nat×SV×SV)) (dJ:List MapEntry),(es.all λ e=>e.2.1.ok q && e.2.2.ok q)=true->
  gA p' μ M (es.map λ e=>(e.1,e.2.1.aC ρ,e.2.2.aC ρ)) dJ->gA p ν M es dJ
 | [],dJ,_,h=>h
 | (b,k,v)::es,dJ,hq,h=>by
  simp only[List.all_cons,Bool.and_eq_true] at hq;obtain⟨e,es',rfl,h2,h3,h4,h5⟩:=h;exact⟨e,es',rfl,h2,Rp.to hq.1.1 hp ig h3.rep,Rp.to hq.1.2 hp ig h4.rep,gA.to hp ig es es' (by simpa using hq.2) h5⟩
theorem gA.back {q:Nat->Bool}{ρ:Nat->Nat}(hp:∀ n,q n=true->p (ρ n))(ig:∀ n,q n=true->μ (ρ n)=ν n):∀ (es:List (Nat×SV×SV)) (dJ:List MapEntry),(es.all λ e=>e.2.1.ok q && e.2.2.ok q)=true->
  gA p' ν M es dJ->gA p μ M (es.map λ e=>(e.1,e.2.1.aC ρ,e.2.2.aC ρ)) dJ
 | [],dJ,_,h=>h
 | (b,k,v)::es,dJ,hq,h=>by
  simp only[List.all_cons,Bool.and_eq_true] at hq;obtain⟨e,es',rfl,h2,h3,h4,h5⟩:=h;exact⟨e,es',rfl,h2,Rp.back hq.1.1 hp ig h3.rep,Rp.back hq.1.2 hp ig h4.rep,gA.back hp ig es es' (by simpa using hq.2) h5⟩
theorem bZ.to {w:World}{q:Nat->Bool}{ρ:Nat->Nat}{m:Nm}{ob:Ob}(hq:ob.ok q=true)(hp:∀ n,q n=true->p n)(ig:∀ n,q n=true->ν n=μ (ρ n))(h:bZ p' μ M w m (ob.aC ρ)):bZ p ν M w m ob:=by
 cases ob<;>simp only[bZ,Ob.aC,Ob.ok] at h hq ⊢
 case box=>obtain⟨h0,vs,h1,h2⟩:=h;exact⟨h0,vs,h1,aS.to hq hp ig h2.wX⟩
 case arr=>
  have hl:∀ (l:List SV),(SV.aN ρ l).length=l.length:=λ l=>by induction l<;>simp_all [SV.aN]
  rcases h with⟨a1,a2,a3⟩|⟨h0,vs,h1,h2,h3,h4,h5,h6⟩
  .exact .inl ⟨a1,a2,List.eq_nil_of_length_eq_zero (by rw[<- hl,a3];rfl)⟩
  exact .inr ⟨h0,vs,h1,by rw[<- h2,hl],h3,h4,h5,aS.to hq hp ig h6.wX⟩
 case map=>obtain⟨h0,dJ,h1,h2⟩:=h;exact⟨h0,dJ,h1,gA.to hp ig _ _ hq h2⟩
 case gz=>exact h
 case iter mo a b c=>
  cases mo with
  | none=>exact⟨h.1,λ n hn=>(by cases hn),by simpa using h.2.2⟩
  | some n=>
   refine⟨h.1,λ n' hn=>by injection hn with hn;subst hn;exact hp n hq,?_⟩;simp only[Option.map_some] at h ⊢;rw[ig n hq];exact h.2.2
 case qo=>obtain⟨h0,r,h1,h2,h3⟩:=h;exact⟨h0,r,h1,aS.to hq hp ig h2.wX,h3⟩
theorem bZ.back {w:World}{q:Nat->Bool}{ρ:Nat->Nat}{m:Nm}{ob:Ob}(hq:ob.ok q=true)(hp:∀ n,q n=true->p (ρ n))(ig:∀ n,q n=true->μ (ρ n)=ν n)(h:bZ p' ν M w m ob):bZ p μ M w m (ob.aC ρ):=by
 cases ob<;>simp only[bZ,Ob.aC,Ob.ok] at h hq ⊢
 case box=>obtain⟨h0,vs,h1,h2⟩:=h;exact⟨h0,vs,h1,aS.back hq hp ig h2.wX⟩
 case arr=>
  have hl:∀ (l:List SV),(SV.aN ρ l).length=l.length:=λ l=>by induction l<;>simp_all [SV.aN]
  rcases h with⟨a1,a2,a3⟩|⟨h0,vs,h1,h2,h3,h4,h5,h6⟩
  .exact .inl ⟨a1,a2,by rw[a3];rfl⟩
  exact .inr ⟨h0,vs,h1,by rw[hl,h2],h3,h4,h5,aS.back hq hp ig h6.wX⟩
 case map=>obtain⟨h0,dJ,h1,h2⟩:=h;exact⟨h0,dJ,h1,gA.back hp ig _ _ hq h2⟩
 case gz=>exact h
 case iter mo a b c=>
  cases mo with
  | none=>exact⟨h.1,λ n hn=>(by cases hn),by simpa using h.2.2⟩
  | some n=>
   refine⟨h.1,λ n' hn=>by simp at hn;subst hn;exact hp n hq,?_⟩;simp only[Option.map_some] at h ⊢;rw[ig n hq];exact h.2.2
 case qo=>obtain⟨h0,r,h1,h2,h3⟩:=h;exact⟨h0,r,h1,aS.back hq hp ig h2.wX,h3⟩
end
theorem kV:∀ {h:Hp} {n:Nat} {ob:Ob},lk h n=some ob->(n,ob)∈h
 | [],n,ob,h=>by simp[bA] at h
 | (m,o)::h,n,ob,hh=>by
  rw[af] at hh
  split at hh
  .rename_i e
   injection hh with hh;subst hh;subst e;simp
  .exact List.mem_cons_of_mem _ (kV hh)
theorem Hp.fu {q:Nat->Bool}{h:Hp}(hq:h.ok q=true){n:Nat}{ob:Ob}(hl:lk h n=some ob):q n=true/\ob.ok q=true:=by
 have:=List.all_eq_true.1 hq _ (kV hl)
 simpa using this
theorem FC {ρ:Nat->Nat}{h:Hp}{q:Nat->Bool}(hq:h.ok q=true)(hinj:∀ n m,q n=true->q m=true->ρ n=ρ m->n=m){n:Nat}(hn:q n=true):lk (h.aC ρ) (ρ n)=(lk h n).map (Ob.aC ρ):=by
 induction h with
 | nil=>rfl
 | cons x h ih=>
  obtain⟨m,o⟩:=x;simp only[Hp.ok,List.all_cons,Bool.and_eq_true] at hq;simp only[Hp.aC,List.map_cons];rw[af,af]
  by_cases e:n=m
  .subst e;simp
  .rw[if_neg e,if_neg (λ h=>e (hinj n m hn hq.1.1 h))]
   exact ih (by simpa[Hp.ok] using hq.2)
theorem Aa {ρ:Nat->Nat}{h:Hp}{m:Nat}{ob:Ob}(hl:lk (h.aC ρ) m=some ob):∃ n kR,(n,kR)∈h/\m=ρ n/\ob=kR.aC ρ:=by
 obtain⟨⟨n,kR⟩,h1,h2⟩:=List.mem_map.1 (kV hl);simp at h2;exact⟨n,kR,h1,h2.1.symm,h2.2.symm⟩
def SB (P:Program)(f:FuncId)(args:List SV)(F:Hp)(k nk:Nat)(Q:SV->Hp->Prop):Prop:=
 jZ P f=true/\SV.ax (λ n=>decide (n<k)) args=true/\F.ok (λ n=>decide (n<k))=true/\
 ∀ (μ:Nat->Nm) (M:Mem) (w:World) (vals:Array Value),aS (· <k) μ M args vals.toList->bR (· <k) μ M (lk F) w->
  Calls P f vals w λ e w'=>∃ r F' bh M' u,e= .returned u/\Q r F'/\r.ok (λ n=>decide (n<k+nk))=true/\F'.ok (λ n=>decide (n<k+nk))=true/\cW bh M' r u/\bR (· <k+nk) bh M' (lk F') w'/\
   Ev (lk F) (λ n=>k<=n/\n<k+nk) μ M w (lk F') bh M' w'
theorem Jh {args:List SV}{F:Hp}{k nk:Nat}{Q:SV->Hp->Prop}(hao:SV.ax (λ n=>decide (n<k)) args=true)(FD:F.ok (λ n=>decide (n<k))=true)(ρ:Nat->Nat)(k':Nat)(hinj:∀ n m,n<k->m<k->ρ n=ρ m->n=m)
    (hnew:∀ i,i<nk->ρ (k+i)=k'+i) {p:Nat->Prop} {μ:Nat->Nm} {M:Mem} {w:World} {vals:Array Value} (hp:∀ n,(k'<=n/\n<k'+nk)-> ¬ p n) (hpk:∀ n,n<k->p (ρ n)) (hr:aS p μ M (SV.aN ρ args) vals.toList) (hS:bR p μ M (lk (F.aC ρ)) w):
    aS (· <k) (λ n=>μ (ρ n)) M args vals.toList/\bR (· <k) (λ n=>μ (ρ n)) M (lk F) w/\∀ e w',
      (∃ r F' bh M' u,e=Ending.returned u/\Q r F'/\r.ok (λ n=>decide (n<k+nk))=true/\F'.ok (λ n=>decide (n<k+nk))=true/\cW bh M' r u/\bR (· <k+nk) bh M' (lk F') w'/\
        Ev (lk F) (λ n=>k<=n/\n<k+nk) (λ n=>μ (ρ n)) M w (lk F') bh M' w')->
      ∃ r F' bh M' u,e=Ending.returned u/\(∃ r0 F0,Q r0 F0/\r=r0.aC ρ/\F'=F0.aC ρ)/\Rp (λ n=>p n\/(k'<=n/\n<k'+nk)) bh M' r u/\bR (λ n=>p n\/(k'<=n/\n<k'+nk)) bh M' (lk F') w'/\
        Ev (lk (F.aC ρ)) (λ n=>k'<=n/\n<k'+nk) μ M w (lk F') bh M' w':=by
  have hq1:∀ n,decide (n<k)=true->n<k:=λ n h=>by simpa using h
  have hlt:∀ n m,n<k->k<=m->m<k+nk->ρ n≠ρ m:=λ n m hn hm hm' e=>by
    have h1:=hnew (m - k) (by omega);rw[show k+(m - k)=m by omega] at h1;exact hp (ρ n) (by rw[e,h1];omega) (hpk n hn)
  have hin:∀ n m,n<k+nk->m<k+nk->ρ n=ρ m->n=m:=λ n m hn hm e=>by
    by_cases h1:n<k<;>by_cases h2:m<k
    . exact hinj n m h1 h2 e
    . exact absurd e (hlt n m h1 (by omega) hm)
    . exact absurd e.symm (hlt m n h2 (by omega) hn)
    . have a1:=hnew (n - k) (by omega)
      have a2:=hnew (m - k) (by omega);rw[show k+(n - k)=n by omega] at a1;rw[show k+(m - k)=m by omega] at a2;omega
  have hr':aS (· <k) (λ n=>μ (ρ n)) M args vals.toList:=aS.to hao hq1 (λ n _=>rfl) hr.wX;have hF:∀ n,n<k->lk (F.aC ρ) (ρ n)=(lk F n).map (Ob.aC ρ):=λ n hn=>FC FD (λ a b ha hb=>hinj a b (hq1 a ha) (hq1 b hb)) (by simpa using hn)
  have hFlt:∀ n,lk F n≠none->n<k:=λ n hn=>by
    obtain⟨ob,bt⟩:=Option.ne_none_iff_exists'.1 hn;exact hq1 n (Hp.fu FD bt).1
  have sJ:bR (· <k) (λ n=>μ (ρ n)) M (lk F) w:=by
    refine⟨hS.mem,λ n ob hn=> ?_,λ n m hn hm ln lm e=> ?_⟩
    . obtain⟨q1,q2⟩:=Hp.fu FD hn
      have hnk:=hq1 n q1;have:=hF n hnk;rw[hn] at this;obtain⟨_,b1,b2⟩:=hS.obs (ρ n) (ob.aC ρ) this;exact⟨hnk,b1.to q2 hq1 (λ n _=>rfl),b2⟩
    . have h1:=hFlt n hn
      have h2:=hFlt m hm;refine hinj n m h1 h2 (hS.inj (ρ n) (ρ m) ?_ ?_ ln lm e)
      . rw[hF n h1];simpa using hn
      . rw[hF m h2];simpa using hm
  refine⟨hr',sJ,?_⟩;rintro e w' ⟨r,F',bh,M',u,rfl,hQ,hro,hFo',hru,hS2,hE⟩;have hq2:∀ n,decide (n<k+nk)=true->n<k+nk:=λ n h=>by simpa using h
  -- the caller's reading of the new names
  let μx:Nat->Nm:=λ m=>if k'<=m/\m<k'+nk then bh (k+(m - k')) else μ m
  have hx:∀ n,n<k+nk->μx (ρ n)=bh n:=λ n hn=>by
    by_cases h1:n<k
    . have: ¬ (k'<=ρ n/\ρ n<k'+nk):=λ hh=>hp (ρ n) hh (hpk n h1)
      simp only[μx,this,if_false];exact(hE.old n (by omega)).symm
    . have a1:=hnew (n - k) (by omega)
      rw[show k+(n - k)=n by omega] at a1;simp only[μx];rw[a1,if_pos (by omega)]
      congr 1
      omega
  have hpx:∀ n,n<k+nk->(p (ρ n)\/(k'<=ρ n/\ρ n<k'+nk)):=λ n hn=>by
    by_cases h1:n<k
    . exact .inl (hpk n h1)
    . have a1:=hnew (n - k) (by omega)
      rw[show k+(n - k)=n by omega] at a1;exact .inr (by omega)
  have hF2:∀ n,n<k+nk->lk (F'.aC ρ) (ρ n)=(lk F' n).map (Ob.aC ρ):=λ n hn=>FC hFo' (λ a b ha hb=>hin a b (hq2 a ha) (hq2 b hb)) (by simpa using hn)
  have hlkF':∀ m ob,lk (F'.aC ρ) m=some ob->∃ n kR,n<k+nk/\m=ρ n/\ob=kR.aC ρ/\lk F' n=some kR/\kR.ok (λ n=>decide (n<k+nk))=true:=by
    intro m ob hm;obtain⟨n,kR,h1,rfl,rfl⟩:=Aa hm;have hn:n<k+nk:=by
      have:=List.all_eq_true.1 hFo' _ h1;simp at this;exact this.1
    rw[hF2 n hn] at hm;obtain⟨I1,h2,h3⟩:=Option.map_eq_some_iff.1 hm;exact⟨n,I1,hn,rfl,h3.symm,h2,(Hp.fu hFo' h2).2⟩
  refine⟨r.aC ρ,F'.aC ρ,μx,M',u,rfl,⟨r,F',hQ,rfl,rfl⟩,Rp.back hro (λ n hn=>hpx n (hq2 n hn)) (λ n hn=>hx n (hq2 n hn)) hru,⟨hS2.mem,λ m ob hm=> ?_,λ a b ha hb la lb e=> ?_⟩,⟨λ m hm=> ?_,hE.mem,λ b hb hf=> ?_,hE.size,λ m hm=> ?_,hE.os,hE.tape,hE.output⟩⟩
  . obtain⟨n,kR,hn,rfl,rfl,hl,hok⟩:=hlkF' m ob hm
    obtain⟨_,b1,b2⟩:=hS2.obs n kR hl;rw[hx n hn];exact⟨hpx n hn,b1.back hok (λ n hn=>hpx n (hq2 n hn)) (λ n hn=>hx n (hq2 n hn)),b2⟩
  . obtain⟨oa,hoa⟩:=Option.ne_none_iff_exists'.1 ha
    obtain⟨ob,bt⟩:=Option.ne_none_iff_exists'.1 hb;obtain⟨n,_,hn,rfl,_,hl,_⟩:=hlkF' a oa hoa;obtain⟨m,_,hm,rfl,_,hl',_⟩:=hlkF' b ob bt;rw[hx n hn] at e la;rw[hx m hm] at e lb;rw[hS2.inj n m (by rw[hl];simp) (by rw[hl'];simp) la lb e]
  . simp only[μx]
    rw[if_neg hm]
  . refine hE.frame b hb λ n hn=> ?_
    have h1:=hFlt n hn;exact hf (ρ n) (by rw[hF n h1];simpa using hn)
  . obtain⟨ob,bt⟩:=Option.ne_none_iff_exists'.1 hm
    obtain⟨n,_,hn,rfl,_,hl,_⟩:=hlkF' m ob bt;rw[hx n hn];rcases hE.names n (by rw[hl];simp) with⟨⟨h1,h2⟩,h3⟩|⟨h1,h2⟩
    . have a1:=hnew (n - k) (by omega)
      rw[show k+(n - k)=n by omega] at a1;refine .inl ⟨by omega,λ ln=> ?_⟩;rcases h3 ln with h3|⟨q,hq,lq,e⟩
      . exact .inl h3
      . have NX:=hFlt q hq
        exact .inr ⟨ρ q,by rw[hF q NX];simpa using hq,lq,e⟩
    . have h3:=hFlt n h2
      refine .inr ⟨λ hh=>hp (ρ n) hh (hpk n h3),by rw[hF n h3];simpa using h2⟩
theorem SB.at {P:Program}{f:FuncId}{args:List SV}{F:Hp}{k nk:Nat}{Q:SV->Hp->Prop}(h:SB P f args F k nk Q)(ρ:Nat->Nat)(k':Nat)(hinj:∀ n m,n<k->m<k->ρ n=ρ m->n=m)
  (hargs:∀ n,n<k->∀ (p:Nat->Prop) μ M w vals,aS p μ M (SV.aN ρ args) vals->bR p μ M (lk (F.aC ρ)) w->p (ρ n)) (hnew:∀ i,i<nk->ρ (k+i)=k'+i):
  SC P f (SV.aN ρ args) (F.aC ρ) k' nk λ r F'=>∃ r0 F0,Q r0 F0/\r=r0.aC ρ/\F'=F0.aC ρ:=by
 refine⟨h.1,λ p μ M w vals hp hr hS=> ?_⟩;obtain⟨h1,h2,h3⟩:=Jh (Q:=Q) h.2.1 h.2.2.1 ρ k' hinj hnew hp (λ n hn=>hargs n hn p μ M w _ hr hS) hr hS;exact(h.2.2.2 _ M w vals h1 h2).mono h3
def Fa (P:Program)(nl:Nat)(args:List SV)(F:Hp)(k nk:Nat)(Q:SV->Hp->Prop):Prop:=
 SV.ax (λ n=>decide (n<k)) args=true/\F.ok (λ n=>decide (n<k))=true/\
 ∀ (μ:Nat->Nm) (M:Mem) (w:World) (vals:Array Value),aS (· <k) μ M args vals.toList->bR (· <k) μ M (lk F) w->
  Fz P (μ nl).blk vals w λ e w'=>∃ r F' bh M' u,e= .returned u/\Q r F'/\r.ok (λ n=>decide (n<k+nk))=true/\F'.ok (λ n=>decide (n<k+nk))=true/\cW bh M' r u/\bR (· <k+nk) bh M' (lk F') w'/\
   Ev (lk F) (λ n=>k<=n/\n<k+nk) μ M w (lk F') bh M' w'
end
section
def kF:Obj->Bool
 | .deferred _=>true
 | _=>false
def Marks (w0 w:World):List Deferred->Prop
 | []=>True
 | d::ds=>(∃ r,d=⟨.collected r,#[]⟩/\w0.heap.size<=r/\w.heap[r]? =some (.deferred (some []))/\∀ d',d'∈ds->d'≠⟨.collected r,#[]⟩)/\Marks w0 w ds
theorem bR.not {p:Nat->Prop}{μ:Nat->Nm}{M:Mem}{c:Nat->Option Ob}{w:World}(hS:bR p μ M c w){b:Nat}{x:Obj}(hx:w.heap[b]? =some x)(hf:kF x=true):∀ n,c n≠none->(μ n).live=true->(μ n).blk≠b:=by
 intro n hn hl e;obtain⟨ob,ho⟩:=Option.ne_none_iff_exists'.1 hn;have h:=(hS.obs n ob ho).2.1;subst e;cases ob<;>simp only[bZ] at h
 .obtain⟨_,_,h,_⟩:=h;rw[hx] at h;injection h with h;subst h;simp[kF] at hf
 .rcases h with⟨h,_⟩|⟨_,_,h,_⟩
  .rw[hl] at h;cases h
  .rw[hx] at h;injection h with h;subst h;simp[kF] at hf
 .obtain⟨_,_,h,_⟩:=h;rw[hx] at h;injection h with h;subst h;simp[kF] at hf
 .rw[hl] at h;cases h
 .obtain⟨_,_,h⟩:=h;rw[hx] at h;injection h with h;subst h;simp[kF] at hf
 .obtain⟨_,_,h,_⟩:=h;rw[hx] at h;injection h with h;subst h;simp[kF] at hf
theorem Ev.keeps {c c':Nat->Option Ob}{new p:Nat->Prop}{μ bh:Nat->Nm}{M M':Mem}{w w':World}(hE:Ev c new μ M w c' bh M' w')(hS:bR p μ M c w){b:Nat}{x:Obj}(hx:w.heap[b]? =some x)(hf:kF x=true):w'.heap[b]? =some x:=by
 rw[(hE.frame b (Array.getElem?_eq_some_iff.1 hx).1 (hS.not hx hf)).1];exact hx
theorem Marks.ev {c c':Nat->Option Ob}{new p:Nat->Prop}{μ bh:Nat->Nm}{M M':Mem}{w0 w w':World}:∀ {df:List Deferred},Marks w0 w df->bR p μ M c w->Ev c new μ M w c' bh M' w'->Marks w0 w' df
 | [],_,_,_=>trivial
 | d::ds,⟨⟨r,h1,h2,h3,h4⟩,h5⟩,hS,hE=>⟨⟨r,h1,h2,hE.keeps hS h3 rfl,h4⟩,Marks.ev h5 hS hE⟩
def iF (N:Nat)(cq:Nat->Nm)(M0:Mem)(w0:World)(c0:Nat->Option Ob)(k0:Nat)(st:St)(a:Act)(w:World):Prop:=
 k0<=st.k/\Marks w0 w a.defers/\a.tmps.size=N/\
 ∃ μ M,(∀ t s,st.env.lookup t=some s->Rp (· <st.k) μ M s (a.tmps.getD t undef))/\bR (· <st.k) μ M (lk st.hp) w/\
  Ev c0 (λ n=>k0<=n/\n<st.k) cq M0 w0 (lk st.hp) μ M w
def L6:mH:=⟨.any,[],[],0,True⟩
section
variable {P:Program}
theorem gV {ops:Array Oper}{o:Oper}{si:SI}(h:qx P ops o=some si):cO P o.op=some si.op/\si.dst=o.dst/\((o.guard=none/\si.g=none)\/∃ j w t,o.guard=some (j,w)/\gD ops j=some t/\si.g=some (t,w)):=by
 unfold qx at h
 split at h<;>try (cases h;done)
 rename_i so hso
 split at h
 .rename_i hg
  injection h with h;subst h;exact⟨hso,rfl,.inl ⟨hg,rfl⟩⟩
 .rename_i j w hg
  split at h<;>try (cases h;done)
  rename_i t ht;injection h with h;subst h;exact⟨hso,rfl,.inr ⟨j,w,t,hg,ht,rfl⟩⟩
theorem qI {ops:Array Oper}{o:Oper}{st:St}{si:SI}{c1 c2:List CR}{e:mH}(hc:qx P ops o=some si)(h:gd P st si c1=some (e,c2))(bt:e.ob):
  sR P ops (λ t=>st.env.lookup t) (lk st.hp) st.k o e/\(dh si.op=true->e.F'=e.F)/\HSub e.F st.hp:=by
 obtain⟨h1,h2,h3⟩:=gV hc;unfold gd at h;rcases h3 with⟨hg,hs⟩|⟨j,w,t,hg,ht,hs⟩
 .simp only[hs] at h
  obtain⟨a1,a2⟩:=ve (ops:=ops) h1 h bt;exact⟨.inr ⟨.inl hg,a1⟩,a2,a1.2⟩
 .simp only[hs] at h
  split at h<;>try (cases h;done)
  .rename_i b hb
   split at h
   .rename_i hbw
    have hbw:b=w:=by simpa using hbw
    subst hbw;obtain⟨a1,a2⟩:=ve (ops:=ops) h1 h bt;exact⟨.inr ⟨.inr ⟨j,b,t,hg,ht,hb⟩,a1⟩,a2,a1.2⟩
   .rename_i hbw
    injection h with h;injection h with h h';subst h;exact⟨.inl ⟨j,w,t,_,hg,ht,hb,by simpa[mO] using hbw,rfl,rfl,rfl,rfl⟩,λ _=>rfl,λ n ob hn=>by simp[bA] at hn⟩
  .rename_i hb
   injection h with h;injection h with h h';subst h;exact⟨.inl ⟨j,w,t,_,hg,ht,hb,rfl,rfl,rfl,rfl,rfl⟩,λ _=>rfl,λ n ob hn=>by simp[bA] at hn⟩
theorem Ab:∀ (cZ:List SI) (st:St) (es:List mH) (i:Nat),es.length<=i->j3 cZ st es (i+1)=j3 cZ st es i
 | [],st,es,i,_=>by simp[j3]
 | si::r,st,[],i,_=>by simp[j3]
 | si::r,st,e::es,0,h=>by simp at h
 | si::r,st,e::es,i+1,h=>by
  simp only[j3];exact Ab r _ es i (by simpa using h)
theorem Ac {id:Nat}{ops:Array Oper}{draw:Bool}{N:Nat}{cZ:List SI}{bs:List Nat}{st st':St}{dK:List CR}{ob:Prop}{ts:List (Bool×List Nat)}
    (hc:FA P N ops draw=some (cZ,bs)) (hrun:runs P cZ st dK=some (st',ob,ts)) (bt:ob) (FE:draw=true->mA bs ts=true) (hm:P.follows .mixedOrders=true)
    {cq:Nat->Nm} {M0:Mem} {w0:World} {c0:Nat->Option Ob} {k0:Nat} {rd:Option Nat} {a:Act} {w:World} (fJ:iF N cq M0 w0 c0 k0 st a w) {Q:Exit->Act->World->Prop}
    (hQ:∀ a' w',iF N cq M0 w0 c0 k0 st' a' w'->Q .normal a' w'):(Code.region id ops draw).wpIn (jX rd) 0 P Q a w:=by
  obtain⟨nI,hdf,hsz,μ,M,gL,hS,hE⟩:=fJ;unfold FA at hc
  split at hc<;>try (cases hc;done)
  rename_i sis' hsis
  split at hc<;>try (cases hc;done)
  rename_i hchk;injection hc with hc;injection hc with hc1 IP;subst hc1;rw[IP] at hchk;simp only[Bool.and_eq_true] at hchk;obtain⟨⟨hok,hslots⟩,hin⟩:=hchk;obtain⟨hlen,kX⟩:=nH hsis;obtain⟨tl,tts,tob,tst⟩:=rJ hrun;have hes:=tob bt;generalize hesd:trace P sis' st dK=es at*;have hn:ops.size=sis'.length:=by simpa using hlen
  have facts:∀ i,i<ops.size->∃ o si e,ops[i]? =some o/\sis'[i]? =some si/\es[i]? =some e/\qx P ops o=some si/\sR P ops (λ t=>(j3 sis' st es i).env.lookup t) (lk (j3 sis' st es i).hp) (j3 sis' st es i).k o e/\
      (dh si.op=true->e.F'=e.F)/\HSub e.F (j3 sis' st es i).hp:=by
    intro i hi;obtain⟨si,h1,h2⟩:=kX i ops[i] (by simp[hi]);have h3:es[i]? =some (es[i]'(by omega)):=List.getElem?_eq_getElem (by omega);obtain⟨c1,c2,h4⟩:=vc (P:=P) (st:=st) (dK:=dK) h1 (by rw[hesd];exact h3);rw[hesd] at h4;obtain⟨b1,b2,b3⟩:=qI h2 h4 (hes _ (List.getElem_mem _));exact⟨ops[i],si,_,Array.getElem?_eq_getElem hi,h1,h3,h2,b1,b2,b3⟩
  let cQ:Nat->mH:=λ i=>es.getD i L6
  let ro:Nat->Bool:=λ i=>((sis'[i]?).map λ s=>dh s.op).getD true
  let kk:Nat->Nat:=λ i=>(j3 sis' st es i).k
  have heff:∀ {i e},es[i]? =some e->cQ i=e:=λ h=>by simp[cQ,List.getD_eq_getElem?_getD,h]
  have hro:∀ {i si},sis'[i]? =some si->ro i=dh si.op:=λ h=>by simp[ro,h]
  have hdst:∀ {i o},ops[i]? =some o->gD ops i=o.dst:=λ h=>by simp[gD,h]
  have hst0:j3 sis' st es 0=st:=by cases sis'<;>cases es<;>rfl
  have hslotS:∀ i,i<=ops.size->∀ t,iI ops (λ t=>st.env.lookup t) cQ (λ _=>true) i t=(j3 sis' st es i).env.lookup t:=by
    intro i
    induction i with
    | zero=>intro _ t;rw[hst0];rfl
    | succ i ih=>
      intro hi t;obtain⟨o,si,e,f1,f2,f3,f4,_⟩:=facts i (by omega);obtain⟨_,g2,_⟩:=gV f4;rw[pS sis' st es i si e f2 f3];simp only[iI,pick,Bool.true_and,hdst f1,heff f3];have ih':=ih (by omega) t;simp only[iI] at ih';simp only[Bool.true_and] at ih';simp only[l6,g2];cases hod:o.dst with
      | none=>simpa using ih'
      | some d=>
        simp only;rw[nG]
        by_cases hd:d=t
        . subst hd;simp
        . simp[hd,ih']
  have hcontS:∀ i,i<=ops.size->fI (lk st.hp) cQ ro (λ _=>true) i=lk (j3 sis' st es i).hp:=by
    intro i
    induction i with
    | zero=>intro _;rw[hst0];rfl
    | succ i ih=>
      intro hi;obtain⟨o,si,e,f1,f2,f3,f4,_,f6,f7⟩:=facts i (by omega);rw[pS sis' st es i si e f2 f3];simp only[l6];rw[iM f7 f6]
      funext jr
      have ih':=congrFun (ih (by omega)) jr;simp only[fI,Bool.true_and] at ih';simp only[fI,pick,Bool.true_and,hro f2,heff f3];cases hr:dh si.op with
      | true=>
        rw[f6 hr];simp only[Bool.not_true,Bool.false_and,Bool.false_eq_true,if_false];rw[ih']
        by_cases h1:lk e.F jr=none
        . rw[dB h1 h1]
        . rw[fm (.inl h1)]
          obtain⟨ob,bt⟩:=Option.ne_none_iff_exists'.1 h1;rw[bt];exact f7 jr ob bt
      | false=>
        have htc:jw cQ i jr=((lk e.F jr).isSome || (lk e.F' jr).isSome):=by simp only[jw,heff f3]
        simp only[Bool.not_false,Bool.true_and,htc];unfold Bm
        split
        . rfl
        . exact ih'
  have hkS:∀ i,kk (i+1)=kk i+(cQ i).nk:=by
    intro i
    by_cases hi:i<ops.size
    . obtain⟨o,si,e,f1,f2,f3,_⟩:=facts i hi
      simp only[kk];rw[pS sis' st es i si e f2 f3,heff f3];rfl
    . simp only[kk]
      rw[Ab sis' st es i (by omega)];have:cQ i=L6:=by simp[cQ,List.getD_eq_getElem?_getD,List.getElem?_eq_none (show es.length<=i by omega)]
      rw[this];rfl
  have htouch:∀ i jr,i<ops.size->ro i=false\/True->jw cQ i jr=true->jr∈(ts.getD i (true,[])).2:=by
    intro i jr hi _ ht;obtain⟨o,si,e,f1,f2,f3,_⟩:=facts i hi;have:ts[i]? =some (iC si e):=by rw[tts];simp[List.getElem?_zipWith,f2,f3]
    rw[List.getD_eq_getElem?_getD,this];simp only[Option.getD_some,iC,List.mem_append,List.mem_map];simp only[jw,heff f3,Bool.or_eq_true,Option.isSome_iff_exists] at ht;rcases ht with⟨ob,h⟩|⟨ob,h⟩
    . exact .inl ⟨(jr,ob),kV h,rfl⟩
    . exact .inr ⟨(jr,ob),kV h,rfl⟩
  have htro:∀ i,i<ops.size->(ts.getD i (true,[])).1=ro i:=by
    intro i hi;obtain⟨o,si,e,f1,f2,f3,_⟩:=facts i hi;have:ts[i]? =some (iC si e):=by rw[tts];simp[List.getElem?_zipWith,f2,f3]
    rw[List.getD_eq_getElem?_getD,this,hro f2];rfl
  have hR :RG P ops bs N (λ t=>st.env.lookup t) (lk st.hp) st.k cQ ro kk:=by
    refine⟨hslots,λ i d hd=> ?_,by simp only[kk];rw[hst0],hkS,λ i j jr hi hj hij hri E9 htj=> ?_,λ i hi=> ?_⟩
    . have hi:i<ops.size:=by
        unfold gD at hd;rcases Nat.lt_or_ge i ops.size with h|h
        . exact h
        . rw[Array.getElem?_eq_none h] at hd;cases hd
      obtain⟨o,si,e,f1,f2,f3,f4,_⟩:=facts i hi;obtain⟨_,g2,_⟩:=gV f4;rw[hdst f1] at hd;have:=List.all_eq_true.1 hin si (List.mem_of_getElem? f2);rw[g2,hd] at this
      simpa using this
    . cases hd:draw with
      | false=>
        rw[hd] at IP;simp only[Jg,Bool.false_eq_true,if_false] at IP;rw[<- IP];rcases Nat.lt_or_ge i j with h|h
        . exact .inl (xM hj h)
        . exact .inr (xM hi (by omega))
      | true=>
        have hnc:=FE hd;unfold mA at hnc;have hl:ts.length=ops.size:=by rw[tts];simp;omega
        have:=pQ hnc (i:=i) (j:=j) (by omega) (by omega);simp only[Bool.or_eq_true,beq_iff_eq,hij,false_or,htro i hi,hri,Bool.not_eq_true',Bool.false_eq_true] at this;have hany:((ts.getD i (true,[])).2.any λ n=>(ts.getD j (true,[])).2.contains n)=true:=by
          refine List.any_eq_true.2 ⟨jr,htouch i jr hi (.inr trivial) E9,?_⟩
          simpa using htouch j jr hj (.inr trivial) htj
        rw[hany] at this
        simpa using this
    . by_cases hii:i<ops.size
      . obtain⟨o,si,e,f1,f2,f3,f4,_,f6,_⟩:=facts i hii
        rw[hro f2] at hi;rw[heff f3];exact f6 hi
      . have:cQ i=L6:=by simp[cQ,List.getD_eq_getElem?_getD,List.getElem?_eq_none (show es.length<=i by omega)]
        rw[this];rfl
  have hsteps:∀ (i:Nat) (o:Oper),ops[i]? =some o->sR P ops (iI ops (λ t=>st.env.lookup t) cQ (λ _=>true) i) (fI (lk st.hp) cQ ro (λ _=>true) i) (kk i) o (cQ i):=by
    intro i o ho;have hi:i<ops.size:=(Array.getElem?_eq_some_iff.1 ho).1;obtain⟨o',si,e,f1,f2,f3,f4,f5,_⟩:=facts i hi;rw[f1] at ho;injection ho with ho;subst ho;rw[heff f3,hcontS i (by omega),show iI ops (λ t=>st.env.lookup t) cQ (λ _=>true) i=λ t=>(j3 sis' st es i).env.lookup t from funext λ t=>hslotS i (by omega) t];exact f5
  have hend:st'=j3 sis' st es ops.size:=by rw[tst,hn]
  have hmono:∀ i,st.k<=kk i:=λ i=>by
    have:=hR.mono (Nat.zero_le i);rw[hR.Pn] at this;exact this
  have hfinal :∀ a' w',Inv ops N (λ t=>st.env.lookup t) (lk st.hp) st.k cQ ro kk μ M w a.defers (λ _=>true) a' w'->Q .normal a' w':=by
    intro a' w' hI;obtain⟨⟨bh,M',h1,h2,h3⟩,h4,h5⟩:=hI;have hp : pD ops st.k cQ kk (λ _=>true)=(· <st'.k):=by
      funext n
      apply propext;rw[hend];have key:∀ i,i<=ops.size->∀ n,(n<st.k\/∃ j,j<i/\kk j<=n/\n<kk j+(cQ j).nk)↔n<kk i:=by
        intro i
        induction i with
        | zero=>intro _ n;rw[hR.Pn];exact⟨λ h=>h.elim (λ h=>h) λ ⟨j,hj,_⟩=>by omega,.inl⟩
        | succ i ih=>
          intro hi n;have:=ih (by omega) n;rw[hkS];constructor
          . rintro(h|⟨j,hj,h1,h2⟩)
            . have:=this.1 (.inl h);omega
            . by_cases hji:j=i
              . subst hji;exact h2
              . have:=this.1 (.inr ⟨j,by omega,h1,h2⟩);omega
          . intro h
            by_cases hlt:n<kk i
            . rcases this.2 hlt with h|⟨j,hj,h1,h2⟩
              . exact .inl h
              . exact .inr ⟨j,by omega,h1,h2⟩
            . exact .inr ⟨i,by omega,by omega,h⟩
      have:=key ops.size (Nat.le_refl _) n;unfold pD ur
      simpa using this
    have hnw:∀ n,ur ops cQ kk (λ _=>true) n↔st.k<=n/\n<st'.k:=by
      intro n;have:=congrFun hp n;constructor
      . rintro⟨j,hj,h1,h2,h3⟩
        refine⟨Nat.le_trans (hmono j) h2,?_⟩;have h':pD ops st.k cQ kk (λ _=>true) n:= .inr ⟨j,hj,h1,h2,h3⟩;rw[hp] at h';exact h'
      . rintro⟨h1,h2⟩
        have h':pD ops st.k cQ kk (λ _=>true) n:=by rw[hp];exact h2
        rcases h' with h'|h'
        . omega
        . exact h'
    rw[hp] at h1 h2;rw[hcontS ops.size (Nat.le_refl _),<- hend] at h2 h3;have hk':st.k<=st'.k:=by rw[hend];exact hmono _
    refine hQ a' w' ⟨by omega,by rw[h4];exact hdf.ev hS h3,h5,bh,M',λ t s h=>h1 t s ?_,h2,(hE.trans h3).uC λ n=> ?_⟩
    . rw[hslotS ops.size (Nat.le_refl _),<- hend];exact h
    . rw[hnw];omega
  have hinit:∀ w1:World,bR (· <st.k) μ M (lk st.hp) w1->Ev (lk st.hp) (λ _=>False) μ M w (lk st.hp) μ M w1->Inv ops N (λ t=>st.env.lookup t) (lk st.hp) st.k cQ ro kk μ M w a.defers (λ _=>false) a w1:=by
    intro w1 wV oE;have hp:pD ops st.k cQ kk (λ _=>false)=(· <st.k):=by
      funext n;apply propext
      unfold pD ur;simp
    have hc0:fI (lk st.hp) cQ ro (λ _=>false) ops.size=lk st.hp:=funext λ jr=>sP λ i _=>by simp
    refine⟨⟨μ,M,λ t s h=> ?_,by rw[hp,hc0];exact wV,by rw[hc0];exact oE.uC λ n=>by unfold ur;simp⟩,rfl,hsz⟩;rw[hp];refine gL t s ?_;rw[<- h];exact(sP λ i _=>by simp).symm
  cases hd:draw with
  | false=>
    refine wpIn_region ?_;rw[List.range_eq_range'];exact hR.Jf hsteps hfinal ops.size 0 a w (by omega) ((hinit w hS (Ev.refl _ _ _ _ _ λ _ _ h=>h)).congr λ j _=>by simp)
  | true=>
    rw[hd] at hok;simp only[Bool.not_true,Bool.false_or] at hok;refine wpIn_region_any hm ?_;refine hR.drawn hok hsteps hfinal ops.size _ a _ (by simp) ?_ (λ j o h=> ?_) ((hinit w.drew hS.drew (Ev.refl _ _ _ _ _ λ _ _ h=>h).drew).congr λ j hj=>by simp[hj])
    . have:∀ n,n<=ops.size->iO (Array.replicate ops.size false) n=n:=by
        intro n
        induction n with
        | zero=>intro _;rfl
        | succ n ih=>intro hn';simp only[iO,ih (by omega)];simp[show n<ops.size by omega]
      exact this _ (Nat.le_refl _)
    . exfalso
      by_cases hj:j<ops.size
      . simp[hj] at h
      . simp[hj] at h
end
end
section
inductive bP where
 | skip
 | e_ (cZ:List SI) (bs:List Nat) (draw:Bool)
 | seq (a b:bP)
 | cond (x:X) (a b:bP)
 | block (id:Nat) (c:bP)
 | loop (c:bP)
 | exit (id:Nat)
 | ret
 | sU (g:X) (ps:List Nat) (assign body:bP)
def bP.rf:bP->Bool
 | .sU .. =>true
 | .seq a b | .cond _ a b=>a.rf || b.rf
 | .block _ a | .loop a=>a.rf
 | _=>false
def cK (P:Program)(N:Nat):Code->Option bP
 | .skip=>some .skip
 | .region _ ops draw=>match FA P N ops draw with
  | some (cZ,bs)=>some (.e_ cZ bs draw)
  | none=>none
 | .seq a b=>match cK P N a,cK P N b with
  | some a,some b=>some (.seq a b)
  | _,_=>none
 | .cond x a b=>match cX x,cK P N a,cK P N b with
  | some x,some a,some b=>some (.cond x a b)
  | _,_,_=>none
 | .block id c=>(cK P N c).map (.block id)
 | .loop c=>(cK P N c).map .loop
 | .exit id=>some (.exit id)
 | .ret=>some .ret
 | .rangeFunc g ps a b=>match cX g,cK P N a,cK P N b with
  | some g,some a,some b=>some (.sU g ps.toList a b)
  | _,_,_=>none
 | _=>none
def SW (P:Program)(N k0:Nat)(s:bP)(st:St)(Q:Exit->St->Prop):Prop:=
 ∀ c,cK P N c=some s->∀ rd,(s.rf=true->rd=none)->∀ cq M0 w0 c0 a w,iF N cq M0 w0 c0 k0 st a w->c.wpIn (jX rd) 0 P (λ e a' w'=>∃ st',Q e st'/\iF N cq M0 w0 c0 k0 st' a' w') a w
section
variable {P:Program} {N k0:Nat} {st:St} {Q:Exit->St->Prop}
theorem SW.mono {s:bP}{Q':Exit->St->Prop}(h:SW P N k0 s st Q)(hq:∀ e st',Q e st'->Q' e st'):SW P N k0 s st Q':=
 λ c hc rd hrf cq M0 w0 c0 a w fJ=>wpIn_mono (h c hc rd hrf cq M0 w0 c0 a w fJ) λ e a' w' ⟨st',h1,h2⟩=>⟨st',hq e st' h1,h2⟩
theorem SW.skip (h:Q .normal st):SW P N k0 .skip st Q:=by
 intro c hc rd hrf cq M0 w0 c0 a w fJ;cases c<;>simp only[cK] at hc<;>first
  | (cases hc;done)
  | exact wpIn_skip ⟨st,h,fJ⟩
  | (exfalso;split at hc<;>cases hc;done)
  | (exfalso;obtain⟨_,_,hh⟩:=Option.map_eq_some_iff.1 hc;cases hh;done)
theorem SW.exit {id:Nat}(h:Q (.exit id) st):SW P N k0 (.exit id) st Q:=by
 intro c hc rd hrf cq M0 w0 c0 a w fJ;cases c<;>simp only[cK] at hc<;>first
  | (cases hc;done)
  | (injection hc with hc;injection hc with hc;subst hc;exact wpIn_exit ⟨st,h,fJ⟩)
  | (exfalso;split at hc<;>cases hc;done)
  | (exfalso;obtain⟨_,_,hh⟩:=Option.map_eq_some_iff.1 hc;cases hh;done)
theorem SW.ret (h:Q .ret st):SW P N k0 .ret st Q:=by
 intro c hc rd hrf cq M0 w0 c0 a w fJ;cases c<;>simp only[cK] at hc<;>first
  | (cases hc;done)
  | exact wpIn_ret ⟨st,h,fJ⟩
  | (exfalso;split at hc<;>cases hc;done)
  | (exfalso;obtain⟨_,_,hh⟩:=Option.map_eq_some_iff.1 hc;cases hh;done)
theorem SW.e_ {cZ:List SI}{bs:List Nat}{draw:Bool}(dK:List CR){st':St}{ob:Prop}{ts:List (Bool×List Nat)}(hm:P.follows .mixedOrders=true)(hrun:runs P cZ st dK=some (st',ob,ts))(bt:ob)
  (FE:(!draw || mA bs ts)=true) (h:Q .normal st'):SW P N k0 (.e_ cZ bs draw) st Q:=by
 intro c hc rd hrf cq M0 w0 c0 a w fJ;cases c<;>simp only[cK] at hc<;>first
  | (cases hc;done)
  | (exfalso;obtain⟨_,_,hh⟩:=Option.map_eq_some_iff.1 hc;cases hh;done)
  | skip
 case region id ops dr=>
  split at hc<;>try (cases hc;done)
  rename_i sis' bs' hR;injection hc with hc;injection hc with e1 e2 e3;subst e1;subst e2;subst e3;exact Ac hR hrun bt (λ hd=>by simpa[hd] using FE) hm fJ λ a' w' hSt'=>⟨st',h,hSt'⟩
 all_goals (exfalso;split at hc<;>cases hc)
theorem SW.seq {x y:bP}(h:SW P N k0 x st λ e st'=>match e with | .normal=>SW P N k0 y st' Q|e=>Q e st'):SW P N k0 (.seq x y) st Q:=by
 intro c hc rd hrf cq M0 w0 c0 a w fJ;cases c<;>simp only[cK] at hc<;>first
  | (cases hc;done)
  | (exfalso;obtain⟨_,_,hh⟩:=Option.map_eq_some_iff.1 hc;cases hh;done)
  | skip
 case seq cx cy=>
  split at hc<;>try (cases hc;done)
  rename_i x' y' hx hy;injection hc with hc;injection hc with e1 e2;subst e1;subst e2;refine wpIn_seq (wpIn_mono (h cx hx rd (λ e=>hrf (by simp[bP.rf,e])) cq M0 w0 c0 a w fJ) λ e a' w' ⟨st',h1,h2⟩=> ?_);cases e<;>first
   | exact h1 cy hy rd (λ e=>hrf (by simp[bP.rf,e])) cq M0 w0 c0 a' w' h2
   | exact⟨st',h1,h2⟩
 all_goals (exfalso;split at hc<;>cases hc)
theorem SW.block {id:Nat}{x:bP}(h:SW P N k0 x st λ e st'=>match e with | .exit id'=>if id'=id then Q .normal st' else Q (.exit id') st'|e=>Q e st'):SW P N k0 (.block id x) st Q:=by
 intro c hc rd hrf cq M0 w0 c0 a w fJ;cases c<;>simp only[cK] at hc<;>first
  | (cases hc;done)
  | (exfalso;split at hc<;>cases hc;done)
  | skip
 case block id' cx=>
  obtain⟨x',hx,e1⟩:=Option.map_eq_some_iff.1 hc;injection e1 with e1 e2;subst e1;subst e2;refine wpIn_block (wpIn_mono (h cx hx rd (λ e=>hrf (by simp[bP.rf,e])) cq M0 w0 c0 a w fJ) λ e a' w' ⟨st',h1,h2⟩=> ?_);cases e<;>try exact⟨st',h1,h2⟩
  rename_i i;simp only[Exit.inBlock] at h1 ⊢
  split
  .rename_i e1;rw[if_pos e1] at h1;exact⟨st',h1,h2⟩
  .rename_i e1;rw[if_neg e1] at h1;exact⟨st',h1,h2⟩
 all_goals (exfalso;obtain⟨_,_,hh⟩:=Option.map_eq_some_iff.1 hc;cases hh)
theorem SW.cond {x:X}{y z:bP}{b:Bool}(hx:ev (λ t=>st.env.lookup t) x=some (.d (.bool b)))(h1:b=true->SW P N k0 y st Q)(h2:b=false->SW P N k0 z st Q):SW P N k0 (.cond x y z) st Q:=by
 intro c hc rd hrf cq M0 w0 c0 a w fJ;cases c<;>simp only[cK] at hc<;>first
  | (cases hc;done)
  | (exfalso;obtain⟨_,_,hh⟩:=Option.map_eq_some_iff.1 hc;cases hh;done)
  | skip
 case cond o cy cz=>
  split at hc<;>try (cases hc;done)
  rename_i x' y' z' hx' hy hz;injection hc with hc;injection hc with e1 e2 e3;subst e1;subst e2;subst e3;obtain⟨nI,hdf,hsz,μ,M,gL,hS,hE⟩:=fJ;have hk:iG (λ t=>st.env.lookup t) #[o] (· <st.k) μ M a:=⟨λ t _ s hs=>gL t s hs,hS.mem.kP⟩;have hb:=Rp.bF.1 (hk.get (by simp) hx' hx);exact wpIn_cond_split hb (λ e=>h1 e cy hy rd (λ e=>hrf (by simp[bP.rf,e])) cq M0 w0 c0 a w ⟨nI,hdf,hsz,μ,M,gL,hS,hE⟩) (λ e=>h2 e cz hz rd (λ e=>hrf (by simp[bP.rf,e])) cq M0 w0 c0 a w ⟨nI,hdf,hsz,μ,M,gL,hS,hE⟩)
 all_goals (exfalso;split at hc<;>cases hc)
def aJ (ρ:Nat->Nat)(k:Nat)(env:List (Nat×SV)):List (Nat×SV)->Prop
 | []=>True
 | (t,s)::r=>env.lookup t=some (s.aC ρ)/\s.ok (λ n=>decide (n<k))=true/\aJ ρ k env r
def sV (ρ:Nat->Nat)(k:Nat)(hp:Hp):Hp->Prop
 | []=>True
 | (n,ob)::r=>lk hp (ρ n)=some (ob.aC ρ)/\n<k/\ob.ok (λ n=>decide (n<k))=true/\sV ρ k hp r
def FF (ρ:Nat->Nat)(h:Hp):Prop:=∀ n,n∈h.map (·.1)->∀ m,m∈h.map (·.1)->ρ n=ρ m->n=m
def aG (k0:Nat)(st st1:St)(ρ:Nat->Nat):Prop:=
 k0<=st1.k/\(∀ n,n<k0->ρ n=n)/\aJ ρ st1.k st.env st1.env/\sV ρ st1.k st.hp st1.hp/\FF ρ st1.hp
theorem aJ.get {ρ:Nat->Nat}{k:Nat}{env:List (Nat×SV)}:∀ {rL:List (Nat×SV)},aJ ρ k env rL->∀ t s,rL.lookup t=some s->env.lookup t=some (s.aC ρ)/\s.ok (λ n=>decide (n<k))=true
 | [],_,t,s,h=>by simp at h
 | (t',s')::r,hw,t,s,h=>by
  simp only[aJ] at hw;simp only[List.lookup] at h
  split at h
  .rename_i e
   have e:t=t':=by simpa using e
   injection h with h;subst h;subst e;exact⟨hw.1,hw.2.1⟩
  .exact aJ.get hw.2.2 t s h
theorem sV.get {ρ:Nat->Nat}{k:Nat}{hp:Hp}:∀ {hp1:Hp},sV ρ k hp hp1->∀ n ob,lk hp1 n=some ob->lk hp (ρ n)=some (ob.aC ρ)/\n<k/\ob.ok (λ n=>decide (n<k))=true
 | [],_,n,ob,h=>by simp[bA] at h
 | (n',kR)::r,hw,n,ob,h=>by
  simp only[sV] at hw;rw[af] at h
  split at h
  .rename_i e
   injection h with h;subst h;subst e;exact⟨hw.1,hw.2.1,hw.2.2.1⟩
  .exact sV.get hw.2.2.2 n ob h
theorem CQ {h:Hp}{n:Nat}(hn:lk h n≠none):n∈h.map (·.1):=by
 obtain⟨ob,ho⟩:=Option.ne_none_iff_exists'.1 hn;exact List.mem_map.2 ⟨(n,ob),kV ho,rfl⟩
theorem iF.weak {cq:Nat->Nm}{M0:Mem}{w0:World}{c0:Nat->Option Ob}{st1:St}{ρ:Nat->Nat}{a:Act}{w:World}(h:iF N cq M0 w0 c0 k0 st a w)(hw:aG k0 st st1 ρ):iF N cq M0 w0 c0 k0 st1 a w:=by
  obtain⟨nI,hdf,hsz,μ,M,gL,hS,hE⟩:=h;obtain⟨h1,h2,h3,h4,h5⟩:=hw
  let ν:Nat->Nm:=λ n=>if n<st1.k then μ (ρ n) else cq n
  have ig:∀ n,n<st1.k->ν n=μ (ρ n):=λ n hn=>by simp[ν,hn]
  have hν':∀ n,decide (n<st1.k)=true->ν n=μ (ρ n):=λ n hn=>ig n (by simpa using hn)
  have hq:∀ n,decide (n<st1.k)=true->n<st1.k:=λ n hn=>by simpa using hn
  refine⟨h1,hdf,hsz,ν,M,λ t s hs=> ?_,⟨hS.mem,λ n ob hn=> ?_,λ n m hn hm ln lm e=> ?_⟩,⟨λ n hn=> ?_,hE.mem,hE.frame,hE.size,λ n hn=> ?_,hE.os,hE.tape,hE.output⟩⟩
  . obtain⟨a1,a2⟩:=h3.get t s hs
    exact Rp.to a2 hq hν' (gL t _ a1).rep
  . obtain⟨a1,a2,a3⟩:=h4.get n ob hn
    obtain⟨_,b1,b2⟩:=hS.obs _ _ a1;rw[ig n a2];exact⟨a2,b1.to a3 hq hν',b2⟩
  . obtain⟨o1,ho1⟩:=Option.ne_none_iff_exists'.1 hn
    obtain⟨o2,ho2⟩:=Option.ne_none_iff_exists'.1 hm;obtain⟨a1,a2,_⟩:=h4.get n o1 ho1;obtain⟨b1,b2,_⟩:=h4.get m o2 ho2;rw[ig n a2] at e ln;rw[ig m b2] at e lm;exact h5 n (CQ hn) m (CQ hm) (hS.inj _ _ (by rw[a1];simp) (by rw[b1];simp) ln lm e)
  . by_cases hk:n<k0
    . rw[ig n (by omega),h2 n hk]
      exact hE.old n (by omega)
    . simp only[ν]
      rw[if_neg (by omega)]
  . obtain⟨o1,ho1⟩:=Option.ne_none_iff_exists'.1 hn
    obtain⟨a1,a2,_⟩:=h4.get n o1 ho1;rw[ig n a2];have hnm:=hE.names (ρ n) (by rw[a1];simp)
    by_cases hk:n<k0
    . rw[h2 n hk] at hnm ⊢
      rcases hnm with⟨⟨b1,_⟩,_⟩|⟨b1,b2⟩
      . omega
      . exact .inr ⟨by omega,b2⟩
    . refine .inl ⟨⟨by omega,a2⟩,?_⟩
      rcases hnm with⟨_,b⟩|⟨b1,b2⟩
      . exact b
      . exact λ l=> .inr ⟨ρ n,b2,by rw[hE.old _ b1] at l;exact l,by rw[hE.old _ b1]⟩
theorem SW.weak {s:bP}{st1:St}(ρ:Nat->Nat)(hw:aG k0 st st1 ρ)(h:SW P N k0 s st1 Q):SW P N k0 s st Q:=
 λ c hc rd hrf cq M0 w0 c0 a w fJ=>h c hc rd hrf cq M0 w0 c0 a w (fJ.weak hw)
theorem SW.loop {α:Type}{x:bP}(I:α->St)(m:α->Nat)(i0:α)(L7:Nat->Nat)(h0:aG k0 st (I i0) L7)
  (round:∀ i,SW P N k0 x (I i) λ e st'=>match e with | .normal=>∃ j ρ,m j<m i/\aG k0 st' (I j) ρ|e=>Q e st'):SW P N k0 (.loop x) st Q:=by
 intro c hc rd hrf cq M0 w0 c0 a w fJ;cases c<;>simp only[cK] at hc<;>first
  | (cases hc;done)
  | (exfalso;split at hc<;>cases hc;done)
  | skip
 case loop cx=>
  obtain⟨x',hx,e1⟩:=Option.map_eq_some_iff.1 hc;injection e1 with e1;subst e1;have key:∀ n i a w,m i=n->iF N cq M0 w0 c0 k0 (I i) a w->(Code.loop cx).wpIn (jX rd) 0 P (λ e a' w'=>∃ st',Q e st'/\iF N cq M0 w0 c0 k0 st' a' w') a w:=by
   intro n i a w hn hI;refine wpIn_loop (λ a w=>∃ i,iF N cq M0 w0 c0 k0 (I i) a w) (λ a w=>Classical.epsilon λ n=>∃ i,m i=n/\iF N cq M0 w0 c0 k0 (I i) a w/\∀ j,iF N cq M0 w0 c0 k0 (I j) a w->m i<=m j) ⟨i,hI⟩ λ a w ⟨i,hI⟩=> ?_
   have least:∀ a w,(∃ i,iF N cq M0 w0 c0 k0 (I i) a w)->∃ n,∃ i,m i=n/\iF N cq M0 w0 c0 k0 (I i) a w/\∀ j,iF N cq M0 w0 c0 k0 (I j) a w->m i<=m j:=by
    intro a w ⟨i,hI⟩;have:∀ n i,m i=n->iF N cq M0 w0 c0 k0 (I i) a w->∃ n,∃ i,m i=n/\iF N cq M0 w0 c0 k0 (I i) a w/\∀ j,iF N cq M0 w0 c0 k0 (I j) a w->m i<=m j:=by
     intro n
     induction n using Nat.strongRecOn with
     | _ n ih=>
      intro i hi hI
      by_cases hh:∃ j,iF N cq M0 w0 c0 k0 (I j) a w/\m j<m i
      .obtain⟨j,hj,hlt⟩:=hh
       exact ih (m j) (by omega) j rfl hj
      .exact⟨m i,i,rfl,hI,λ j hj=>Nat.le_of_not_lt λ h=>hh ⟨j,hj,h⟩⟩
    exact this (m i) i rfl hI
   obtain⟨i',e1,hI',hmin⟩:=Classical.epsilon_spec (least a w ⟨i,hI⟩);refine wpIn_mono (round i' cx hx rd (λ e=>hrf (by simp[bP.rf,e])) cq M0 w0 c0 a w hI') λ e a' w' ⟨st',h1,h2⟩=> ?_
   cases e<;>try exact⟨st',h1,h2⟩
   obtain⟨j,ρ,hlt,hw⟩:=h1;have hJ:=h2.weak hw;refine⟨⟨j,hJ⟩,?_⟩;obtain⟨j',e2,hJ',hmin'⟩:=Classical.epsilon_spec (least a' w' ⟨j,hJ⟩);rw[<- e1,<- e2];exact Nat.lt_of_le_of_lt (hmin' j hJ) hlt
  exact key (m i0) i0 a w rfl (fJ.weak h0)
 all_goals (exfalso;obtain⟨_,_,hh⟩:=Option.map_eq_some_iff.1 hc;cases hh)
inductive RV where
 | tmp (t:Nat)
 | cell (t:Nat) (sz:Option Nat)
def Ji (P:Program):List ResultVar->Option (List RV)
 | []=>some []
 | .tmp t::r=>match Ji P r with
  | some r=>some (.tmp t::r)
  | none=>none
 | .cell t ty::r=>match dS P ty,Ji P r with
  | some sz,some r=>some (.cell t sz::r)
  | _,_=>none
def Fb (st:St):List RV->Option (List SV×Prop)
  | []=>some ([],True)
  | .tmp t::r=>match st.env.lookup t,Fb st r with
    | some s,some (ss,ob)=>some (s::ss,ob)
    | _,_=>none
  | .cell t sz::r=>match st.env.lookup t,Fb st r with
    | some s,some (ss,ob)=>match gC (lk st.hp) s with
      | some (cs,off,_)=>match Bq cs off sz with
        | some v=>some (v::ss,zJ cs off sz/\ob)
        | none=>none
      | none=>none
    | _,_=>none
def fB:List SV->SV
 | [s]=>s
 | ss=> .dL ss
def Ad (tmps:Array Value):ResultVar->Sem Value
 | .tmp t=>pure (tmps.getD t undef)
 | .cell t ty=>do loadVar ty (<- asAddr (tmps.getD t undef))
theorem Bv (fn:Func)(tmps:Array Value):results fn tmps=(do let vs <- fn.results.mapM (Ad tmps);pure (if h:vs.size=1 then vs[0] else .tuple vs):Sem Value):=by
 unfold results
 congr 1
theorem Bw {w:World}{a:Act}{p:Nat->Prop}{μ:Nat->Nm}{M:Mem}(gL:∀ t s,st.env.lookup t=some s->Rp p μ M s (a.tmps.getD t undef))(hS:bR p μ M (lk st.hp) w):
  ∀ (rs:List ResultVar) (rM:List RV) (ss:List SV) (ob:Prop),Ji P rs=some rM->Fb st rM=some (ss,ob)->ob->
   ∃ vs:List Value,(rs.mapM (Ad a.tmps)).run P w= .ok vs w/\aS p μ M ss vs
 | [],rM,ss,ob,h1,h2,h3=>by
  simp[Ji] at h1;subst h1;simp[Fb] at h2;obtain⟨rfl,_⟩:=h2;exact⟨[],by simp,aS.aQ.2 rfl⟩
 | .tmp t::rs,rM,ss,ob,h1,h2,h3=>by
  simp only[Ji] at h1
  split at h1<;>try (cases h1;done)
  rename_i r hr;injection h1 with h1;subst h1;simp only[Fb] at h2
  split at h2<;>try (cases h2;done)
  rename_i s ss' kR hs hss;injection h2 with h2;injection h2 with h2 h2';subst h2;subst h2';obtain⟨vs,h4,h5⟩:=Bw gL hS rs r ss' _ hr hss h3;refine⟨_::vs,?_,aS.aD.2 ⟨_,vs,rfl,gL t s hs,h5⟩⟩;simp only[List.mapM_cons,Ad,Sem.run_bind,Sem.run_pure,Result.andThen_ok,h4]
 | .cell t ty::rs,rM,ss,ob,h1,h2,h3=>by
  simp only[Ji] at h1
  split at h1<;>try (cases h1;done)
  rename_i sz r hsz hr;injection h1 with h1;subst h1;simp only[Fb] at h2
  split at h2<;>try (cases h2;done)
  rename_i s ss' kR hs hss
  split at h2<;>try (cases h2;done)
  rename_i cs off F hc
  split at h2<;>try (cases h2;done)
  rename_i v hv;injection h2 with h2;injection h2 with h2 h2';subst h2;subst h2';obtain⟨vs,h4,h5⟩:=Bw gL hS rs r ss' _ hr hss h3.2;obtain⟨b,q,e1,hrd⟩:=qv hc (gL t s hs) (hS.sub (tS hc));obtain⟨u,hu,hu'⟩:=CJ hsz hv h3.1 hrd;refine⟨u::vs,?_,aS.aD.2 ⟨u,vs,rfl,hu',h5⟩⟩;have hA:(asAddr (a.tmps.getD t undef)).run P w= .ok ⟨b,q+off,none⟩ w:=by rw[e1];rfl
  simp only[List.mapM_cons,Ad,hA,Sem.run_bind,Sem.run_pure,Result.andThen_ok,hu,h4]
theorem Ae {w:World}{a:Act}{fn:Func}{rM:List RV}{ss:List SV}{ob:Prop}{p:Nat->Prop}{μ:Nat->Nm}{M:Mem}(gL:∀ t s,st.env.lookup t=some s->Rp p μ M s (a.tmps.getD t undef))(hS:bR p μ M (lk st.hp) w)
  (h1:Ji P fn.results.toList=some rM) (h2:Fb st rM=some (ss,ob)) (h3:ob):∃ v,(results fn a.tmps).run P w= .ok v w/\Rp p μ M (fB ss) v:=by
 obtain⟨vs,h4,h5⟩:=Bw gL hS fn.results.toList rM ss ob h1 h2 h3;have h6:(fn.results.mapM (Ad a.tmps)).run P w= .ok vs.toArray w:=by
  rw[<- Array.toArray_toList (xs:=fn.results),List.mapM_toArray,Sem.run_map,h4];rfl
 have hl:=h5.length;rw[Bv];simp only[Sem.run_bind,h6,Result.andThen_ok,Sem.run_pure]
 match ss,vs,hl,h5 with
 | [s],[v],_,h5=>
  obtain⟨u,us,e,hu,_⟩:=aS.aD.1 h5;injection e with e1 e2;subst e1;exact⟨v,by rw[dif_pos (by rfl)];rfl,hu⟩
 | [],[],_,h5=>exact⟨_,rfl,Rp.eP.2 ⟨#[],by simp,h5⟩⟩
 | s::s'::ss,[],h,_=>simp at h
 | s::s'::ss,[v],h,_=>simp at h
 | s::s'::ss,v::v'::vs,_,h5=>exact⟨_,rfl,Rp.eP.2 ⟨(v::v'::vs).toArray,by simp,by simpa using h5⟩⟩
theorem bR.put {p:Nat->Prop}{μ:Nat->Nm}{M:Mem}{c:Nat->Option Ob}{w:World}(hS:bR p μ M c w){r:Nat}{y:Obj}(x:Obj)(hr:w.heap[r]? =some y)(hf:kF y=true):bR p μ M c (w.putObj r x):=by
 refine⟨⟨λ b o v h=> ?_,hS.mem.kP⟩,λ n ob hn=> ?_,hS.inj⟩
 .have h1:=hS.mem b o v h
  have hb:b≠r:=by
   rintro rfl;simp only[World.cell?,hr] at h1;cases y<;>simp[kF] at hf h1
  simp only[World.cell?,World.putObj_heap_other hb] at h1 ⊢;exact h1
 .obtain⟨a1,a2,a3⟩:=hS.obs n ob hn
  exact⟨a1,a2.more (λ _ h=>h) (λ _ _=>rfl) (Mem.le_refl _) (λ hl=>World.putObj_heap_other (hS.not hr hf n (by rw[hn];simp) hl)),a3⟩
theorem Ev.put {c c':Nat->Option Ob}{new:Nat->Prop}{μ bh:Nat->Nm}{M M':Mem}{w0 w:World}(hE:Ev c new μ M w0 c' bh M' w){r:Nat}(x:Obj)(hr:w0.heap.size<=r):Ev c new μ M w0 c' bh M' (w.putObj r x):=
 ⟨hE.old,hE.mem,λ b hb hn=>⟨(World.putObj_heap_other (by omega)).trans (hE.frame b hb hn).1,(hE.frame b hb hn).2⟩,by rw[World.putObj_size];exact hE.size,hE.names,hE.os,hE.tape,hE.output⟩
theorem Marks.put {w0 w:World}{r:Nat}(x:Obj):∀ df,(∀ d',d'∈df->d'≠⟨.collected r,#[]⟩)->Marks w0 w df->Marks w0 (w.putObj r x) df
 | [],_,_=>trivial
 | d::ds,hne,⟨⟨r',h1,h2,h3,h4⟩,h5⟩=>
  ⟨⟨r',h1,h2,(World.putObj_heap_other (λ e=>hne d (by simp) (by rw[h1,e]))).trans h3,h4⟩,Marks.put x ds (λ d' hd=>hne d' (by simp[hd])) h5⟩
theorem rN {fn:Func}{tmps:Array Value}{R:Ending->World->Prop}{p:Nat->Prop}{μ:Nat->Nm}{M:Mem}{c:Nat->Option Ob}{c0:Nat->Option Ob}{new:Nat->Prop}{cq:Nat->Nm}{M0:Mem}{w0:World}:
  ∀ (df:List Deferred) (w:World),Marks w0 w df->bR p μ M c w->Ev c0 new cq M0 w0 c μ M w->(∀ w',bR p μ M c w'->Ev c0 new cq M0 w0 c μ M w'->LeavesIn (jX none) 0 P fn tmps R [] .returning w')->LeavesInM (jX none) 0 P fn tmps R df .returning w
 | [],w,_,hS,hE,h=>h w hS hE
 | d::ds,w,⟨⟨r,h1,h2,h3,h4⟩,h5⟩,hS,hE,h=>by
  refine⟨by simp,.inl ⟨r,_,by rw[h1],run_takeDeferred h3,?_⟩⟩;exact rN ds _ (Marks.put _ ds h4 h5) (hS.put _ h3 rfl) (hE.put _ h2) h
def Fin (k nk:Nat)(rM:List RV)(Q:SV->Hp->Prop)(st:St):Prop:=
 ∃ ss ob F',Fb st rM=some (ss,ob)/\ob/\HSub F' st.hp/\Q (fB ss) F'/\(fB ss).ok (λ n=>decide (n<k+nk))=true/\F'.ok (λ n=>decide (n<k+nk))=true/\k+nk<=st.k
def lT:Nat->List SV->List (Nat×SV)
 | _,[]=>[]
 | i,s::ss=>(i,s)::lT (i+1) ss
theorem Af:∀ (i:Nat) (ss:List SV) (t:Nat) (s:SV),(lT i ss).lookup t=some s->i<=t/\ss[t - i]? =some s
 | i,[],t,s,h=>by simp[lT] at h
 | i,x::ss,t,s,h=>by
  simp only[lT,List.lookup] at h
  split at h
  .rename_i e
   have e:t=i:=by simpa using e
   injection h with h;subst h;subst e;simp
  .obtain⟨h1,h2⟩:=Af (i+1) ss t s h
   refine⟨by omega,?_⟩;rw[show t - i=(t - (i+1))+1 by omega]
   simpa using h2
theorem SB.Jj {f:FuncId}{fn:Func}{c:Code}{s:bP}{rM:List RV}{args:List SV}{F:Hp}{k nk:Nat}{Q:SV->Hp->Prop}(hf:P.funcs[f]? =some fn)(hb:fn.body=some c)(hc:cK P fn.ntmps c=some s)
  (Nv:Ji P fn.results.toList=some rM) (FG:jZ P f=true) (hargs:SV.ax (λ n=>decide (n<k)) args=true) (hF:F.ok (λ n=>decide (n<k))=true) (hN:args.length<=fn.ntmps)
  (h:SW P fn.ntmps k s ⟨lT 0 args,F,k⟩ λ e st'=>match e with | .normal=>Fin k nk rM Q st' | .ret=>Fin k nk rM Q st'|_=>False):SB P f args F k nk Q:=by
 refine⟨FG,hargs,hF,λ μ M w vals hr hS=>sK (r:=none) (n:=0) |>.1 (callsIn_of_wp_marks hf hb trivial ?_)⟩;have hlen:vals.size=args.length:=by simpa using hr.length
 have fJ:iF fn.ntmps μ M w (lk F) k ⟨lT 0 args,F,k⟩ { tmps:=vals++Array.replicate (fn.ntmps - vals.size) undef,defers:=[]} w:=by
  refine⟨Nat.le_refl _,trivial,by simp;omega,μ,M,λ t s hs=> ?_,hS,Ev.refl _ _ _ _ _ λ n hn hh=>absurd hh.2 (Nat.not_lt.2 hh.1)⟩;obtain⟨_,h2⟩:=Af 0 args t s hs;obtain⟨u,hu,hr'⟩:=hr.get h2;have hu':vals[t]? =some u:=by simpa using hu
  have hlt:t<vals.size:=(Array.getElem?_eq_some_iff.1 hu').1;have:(vals++Array.replicate (fn.ntmps - vals.size) undef).getD t undef=u:=by
   rw[Array.getD_eq_getD_getElem?,Array.getElem?_append_left hlt,hu'];rfl
  rw[this];exact hr'
 refine wpIn_mono (h c hc none (λ _=>rfl) μ M w (lk F) _ w fJ) ?_;rintro e a' w' ⟨st',hQ,hSt'⟩;obtain⟨_,hdf,_,yI,M1,gL,hS0,hE0⟩:=hSt';have fin:Fin k nk rM Q st'->LeavesInM (jX none) 0 P fn a'.tmps (λ e w'=>∃ r F' bh M' u,e=Ending.returned u/\Q r F'/\r.ok (λ n=>decide (n<k+nk))=true/\F'.ok (λ n=>decide (n<k+nk))=true/\cW bh M' r u/\bR (· <k+nk) bh M' (lk F') w'/\
   Ev (lk F) (λ n=>k<=n/\n<k+nk) μ M w (lk F') bh M' w') a'.defers .returning w':=by
  rintro⟨ss,ob,F',h1,h2,h3,h4,h5,h6,h7⟩;refine rN a'.defers w' hdf hS0 hE0 λ w' wV oE=> ?_
  obtain⟨v,hv,hr'⟩:=Ae gL wV Nv h1 h2;refine⟨v,hv,fB ss,F',λ n=>if n<k+nk then yI n else μ n,M1,v,rfl,h4,h5,h6,?_,?_,?_⟩
  .exact cW.congr (λ n hn=>by simp only[decide_eq_true_eq] at hn;rw[if_pos hn]) _ v h5 hr'.rep
  .refine⟨wV.mem,λ n ob hn=> ?_,λ n m hn hm ln lm e=> ?_⟩
   .obtain⟨a1,a2⟩:=Hp.fu h6 hn
    simp only[decide_eq_true_eq] at a1;obtain⟨_,b1,b2⟩:=wV.obs n ob (h3 n ob hn);simp only[if_pos a1];refine⟨a1,?_,b2⟩;have hb':bZ (· <st'.k) (λ n=>yI (id n)) M1 w' (yI n) (ob.aC id):=by
     have hid:∀ s:SV,s.aC id=s:=λ s=>by
      have key:∀ s:SV,s.aC id=s:=by
       intro s;exact SV.rec (motive_1:=λ s=>s.aC id=s) (motive_2:=λ l=>SV.aN id l=l) (λ _=>rfl) (λ _ _=>rfl) (λ _ _=>rfl) (λ _ _ _=>rfl) (λ _ _=>rfl) (λ _=>rfl) (λ _=>rfl) (λ _=>rfl) (λ f a c h1 h2=>by simp only[SV.aC,h1,h2]) (λ cs h=>by simp only[SV.aC,h]) (λ cs h=>by simp only[SV.aC,h]) rfl rfl (λ c cs h1 h2=>by simp only[SV.aN,h1,h2]) s
      exact key s
     have hids:∀ l:List SV,SV.aN id l=l:=λ l=>by induction l<;>simp_all [SV.aN]
     have:ob.aC id=ob:=by
      cases ob<;>simp[Ob.aC,hids,hid]
     rw[this];exact b1
    exact bZ.to a2 (λ m hm=>by simpa using hm) (λ m hm=>by simp only[decide_eq_true_eq] at hm;simp[hm]) hb'
   .obtain⟨o1,ho1⟩:=Option.ne_none_iff_exists'.1 hn
    obtain⟨o2,ho2⟩:=Option.ne_none_iff_exists'.1 hm;have a1:=(Hp.fu h6 ho1).1;have a2:=(Hp.fu h6 ho2).1;simp only[decide_eq_true_eq] at a1 a2;rw[if_pos a1] at e ln;rw[if_pos a2] at e lm;exact wV.inj n m (by rw[h3 n o1 ho1];simp) (by rw[h3 m o2 ho2];simp) ln lm e
  .refine⟨λ n hn=> ?_,oE.mem,oE.frame,oE.size,λ n hn=> ?_,oE.os,oE.tape,oE.output⟩
   .by_cases hnk:n<k+nk
    .rw[if_pos hnk];exact oE.old n (by omega)
    .rw[if_neg hnk]
   .obtain⟨o1,ho1⟩:=Option.ne_none_iff_exists'.1 hn
    have a1:=(Hp.fu h6 ho1).1;simp only[decide_eq_true_eq] at a1;rw[if_pos a1];rcases oE.names n (by rw[h3 n o1 ho1];simp) with⟨b1,b2⟩|⟨b1,b2⟩
    .exact .inl ⟨⟨b1.1,a1⟩,b2⟩
    .exact .inr ⟨by omega,b2⟩
 cases e<;>first
  | exact fin hQ
  | exact hQ.elim
end
end
end Go.Sl
