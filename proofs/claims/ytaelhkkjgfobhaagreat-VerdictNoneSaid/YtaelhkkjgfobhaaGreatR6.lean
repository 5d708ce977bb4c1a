/-
 A box's cell that holds no map: a map of one's own that is nil.
-/
import Derived.Test.YtaelhkkjgfobhaaGreatR4
set_option linter.unusedVariables false
set_option linter.unusedSimpArgs false
set_option linter.unusedSectionVars false
namespace Go.Sl
open Go.RowKit
def rT (bs:List Nat)(ts:List (Bool×List Nat)):Bool:=
 zW ts.length λ i j=>i == j || (ts.getD i (true,[])).1 || gU bs i j || gU bs j i || !((ts.getD i (true,[])).2.any λ n=>(ts.getD j (true,[])).2.contains n)
theorem bM {f:Bool}{bs:List Nat}{ts:List (Bool×List Nat)}(h:(!f || rT bs ts)=true):(!f || mA bs ts)=true:=by
 rw[<- h]
 congr 1
 unfold mA rT
 congr 1
 funext i j
 generalize (i == j)=a;generalize (ts.getD i (true,[])).1=b;generalize gU bs i j=c;generalize gU bs j i=d;generalize List.any _ _=e;cases a<;>cases b<;>cases c<;>cases d<;>cases e<;>rfl
section
variable {P:Program} {N k0:Nat} {st:St} {Q:Exit->St->Prop}
end
end Go.Sl
namespace Go.Sl
section
section
variable {P:Program} {N k0:Nat} {st uM:St} {Q:Exit->St->Prop} {cZ:List SI} {bs:List Nat} {draw:Bool} {Φ C1 C2 C3 C4:Prop}
abbrev RF (P:Program)(L:List Nat)(cZ:List SI)(bs:List Nat)(draw:Bool)(st uM:St):Prop:=RW P cZ st λ st' ts=>(!draw || mA bs ts)=true/\ak L st' λ s=>s=uM
theorem RF.sw {L:List Nat}(hm:P.follows .mixedOrders=true)(hr:RF P L cZ bs draw st uM)(h:Q .normal uM):SW P N k0 (.e_ cZ bs draw) st Q:=by
 refine SW.di L hm ?_;obtain⟨dK,st',ob,ts,h1,h2,h3,h4⟩:=hr;refine⟨dK,st',ob,ts,h1,h2,h3,?_⟩;unfold ak at h4 ⊢;rw[h4];exact h
theorem SW.g0 (L:List Nat)(hm:P.follows .mixedOrders=true)(φ:Φ)(h:Q .normal uM)
  (hr:Φ->RF P L cZ bs draw st uM:=by
   intro φ;(repeat (first|refine RW.ro φ (h:=?_)|refine RW.skip (h:=?_)|refine RW.op φ (h:=?_)|refine RW.dV φ (h:=?_)|refine RW.br (h:=?_)));exact RW.nil ⟨bM (by kernel_rfl),ak.mk (h:=rfl)⟩):SW P N k0 (.e_ cZ bs draw) st Q:=RF.sw hm (hr φ) h
theorem SW.g1 (L:List Nat)(hm:P.follows .mixedOrders=true)(φ:Φ)(c1:C1)(h:Q .normal uM)
  (hr:Φ->C1->RF P L cZ bs draw st uM:=by
   intro φ c1;(repeat (first|refine RW.ro φ (h:=?_)|refine RW.skip (h:=?_)|refine RW.op φ (h:=?_)|refine RW.dV φ (h:=?_)|refine RW.br (h:=?_)|(refine RW.bC (h:=?_);(first|refine aj.mk φ (hc:=c1) (h:=?_)|refine aj.mk φ (hc:=c1 _) (h:=?_)|refine aj.mk φ (hs:=c1.1) (hc:=c1.2) (h:=?_)))));exact RW.nil ⟨bM (by kernel_rfl),ak.mk (h:=rfl)⟩):SW P N k0 (.e_ cZ bs draw) st Q:=RF.sw hm (hr φ c1) h
theorem SW.g2 (L:List Nat)(hm:P.follows .mixedOrders=true)(φ:Φ)(c1:C1)(c2:C2)(h:Q .normal uM)
  (hr:Φ->C1->C2->RF P L cZ bs draw st uM:=by
   intro φ c1 c2;(repeat (first|refine RW.ro φ (h:=?_)|refine RW.skip (h:=?_)|refine RW.op φ (h:=?_)|refine RW.dV φ (h:=?_)|refine RW.br (h:=?_)|(refine RW.bC (h:=?_);(first|refine aj.mk φ (hc:=c1) (h:=?_)|refine aj.mk φ (hc:=c1 _) (h:=?_)|refine aj.mk φ (hs:=c1.1) (hc:=c1.2) (h:=?_)|refine aj.mk φ (hc:=c2) (h:=?_)|refine aj.mk φ (hc:=c2 _) (h:=?_)|refine aj.mk φ (hs:=c2.1) (hc:=c2.2) (h:=?_)))));exact RW.nil ⟨bM (by kernel_rfl),ak.mk (h:=rfl)⟩):SW P N k0 (.e_ cZ bs draw) st Q:=RF.sw hm (hr φ c1 c2) h
theorem SW.g4 (L:List Nat)(hm:P.follows .mixedOrders=true)(φ:Φ)(c1:C1)(c2:C2)(c3:C3)(c4:C4)(h:Q .normal uM)
  (hr:Φ->C1->C2->C3->C4->RF P L cZ bs draw st uM:=by
   intro φ c1 c2 c3 c4;(repeat (first|refine RW.ro φ (h:=?_)|refine RW.skip (h:=?_)|refine RW.op φ (h:=?_)|refine RW.dV φ (h:=?_)|refine RW.br (h:=?_)|(refine RW.bC (h:=?_);(first|refine aj.mk φ (hc:=c1) (h:=?_)|refine aj.mk φ (hc:=c1 _) (h:=?_)|refine aj.mk φ (hs:=c1.1) (hc:=c1.2) (h:=?_)|refine aj.mk φ (hc:=c2) (h:=?_)|refine aj.mk φ (hc:=c2 _) (h:=?_)|refine aj.mk φ (hs:=c2.1) (hc:=c2.2) (h:=?_)|refine aj.mk φ (hc:=c3) (h:=?_)|refine aj.mk φ (hc:=c3 _) (h:=?_)|refine aj.mk φ (hs:=c3.1) (hc:=c3.2) (h:=?_)|refine aj.mk φ (hc:=c4) (h:=?_)|refine aj.mk φ (hc:=c4 _) (h:=?_)|refine aj.mk φ (hs:=c4.1) (hc:=c4.2) (h:=?_)))));exact RW.nil ⟨bM (by kernel_rfl),ak.mk (h:=rfl)⟩):SW P N k0 (.e_ cZ bs draw) st Q:=RF.sw hm (hr φ c1 c2 c3 c4) h
end
end
section
section
variable {P:Program} {N k0:Nat} {st uM:St} {Q:Exit->St->Prop} {cZ:List SI} {bs:List Nat} {draw:Bool} {Φ:Prop}
variable {r r':List SI} {K K':St->List (Bool×List Nat)->Prop} {C:Prop} {F:List (Bool×List Nat)->Prop} {q:St->Prop} {L:List Nat}
theorem RW.gG (φ:Φ)(cs:C)(h:RW P r' uM K')(hr:Φ->C->RW P r' uM K'->RW P r st K:=by
   intro φ cs g;(repeat (first|refine RW.skip (h:=?_)|refine RW.ro φ (h:=?_)|refine RW.op φ (h:=?_)|refine RW.dV φ (h:=?_)|refine RW.br (h:=?_)|(refine RW.bC (h:=?_);(first|refine aj.mk φ (hc:=cs.1 _) (h:=?_)|refine aj.mk φ (hc:=cs.2.1 _) (h:=?_)|refine aj.mk φ (hc:=cs.2.2.1 _) (h:=?_)|refine aj.mk φ (hc:=cs.2.2.2.1 _) (h:=?_)|refine aj.mk φ (hc:=cs.2.2.2.2.1 _) (h:=?_)|refine aj.mk φ (hc:=cs.2.2.2.2.2.1 _) (h:=?_)|refine aj.mk φ (hc:=cs.2.2.2.2.2.2.1 _) (h:=?_)|refine aj.mk φ (hc:=cs.2.2.2.2.2.2.2.1 _) (h:=?_)|refine aj.mk φ (hc:=cs.2.2.2.2.2.2.2.2.1 _) (h:=?_)|refine aj.mk φ (hc:=cs.2.2.2.2.2.2.2.2.2.1 _) (h:=?_)|refine aj.mk φ (hc:=cs.2.2.2.2.2.2.2.2.2.2.1 _) (h:=?_)|refine aj.mk φ (hc:=cs.2.2.2.2.2.2.2.2.2.2.2.1 _) (h:=?_)))));exact g):RW P r st K:=hr φ cs h
theorem SW.gB (L:List Nat)(hm:P.follows .mixedOrders=true)(φ:Φ)(cs:C)(h:RW P r' uM K')(hr:Φ->C->RW P r' uM K'->RW P cZ st λ st' ts=>(!draw || mA bs ts)=true/\ak L st' (Q .normal):=by
   intro φ cs g;(repeat (first|refine RW.skip (h:=?_)|refine RW.ro φ (h:=?_)|refine RW.op φ (h:=?_)|refine RW.dV φ (h:=?_)|refine RW.br (h:=?_)|(refine RW.bC (h:=?_);(first|refine aj.mk φ (hc:=cs.1 _) (h:=?_)|refine aj.mk φ (hc:=cs.2.1 _) (h:=?_)|refine aj.mk φ (hc:=cs.2.2.1 _) (h:=?_)|refine aj.mk φ (hc:=cs.2.2.2.1 _) (h:=?_)|refine aj.mk φ (hc:=cs.2.2.2.2.1 _) (h:=?_)|refine aj.mk φ (hc:=cs.2.2.2.2.2.1 _) (h:=?_)|refine aj.mk φ (hc:=cs.2.2.2.2.2.2.1 _) (h:=?_)|refine aj.mk φ (hc:=cs.2.2.2.2.2.2.2.1 _) (h:=?_)|refine aj.mk φ (hc:=cs.2.2.2.2.2.2.2.2.1 _) (h:=?_)|refine aj.mk φ (hc:=cs.2.2.2.2.2.2.2.2.2.1 _) (h:=?_)|refine aj.mk φ (hc:=cs.2.2.2.2.2.2.2.2.2.2.1 _) (h:=?_)|refine aj.mk φ (hc:=cs.2.2.2.2.2.2.2.2.2.2.2.1 _) (h:=?_)))));exact g):SW P N k0 (.e_ cZ bs draw) st Q:=SW.di L hm (hr φ cs h)
theorem RW.gE (φ:Φ)(cs:C)(h:q uM)(hr:Φ->C->RW P r st (λ st' ts=>F ts/\ak L st' λ s=>s=uM):=by
   intro φ cs;(repeat (first|refine RW.skip (h:=?_)|refine RW.ro φ (h:=?_)|refine RW.op φ (h:=?_)|refine RW.dV φ (h:=?_)|refine RW.br (h:=?_)|(refine RW.bC (h:=?_);(first|refine aj.mk φ (hc:=cs.1 _) (h:=?_)|refine aj.mk φ (hc:=cs.2.1 _) (h:=?_)|refine aj.mk φ (hc:=cs.2.2.1 _) (h:=?_)|refine aj.mk φ (hc:=cs.2.2.2.1 _) (h:=?_)|refine aj.mk φ (hc:=cs.2.2.2.2.1 _) (h:=?_)|refine aj.mk φ (hc:=cs.2.2.2.2.2.1 _) (h:=?_)|refine aj.mk φ (hc:=cs.2.2.2.2.2.2.1 _) (h:=?_)|refine aj.mk φ (hc:=cs.2.2.2.2.2.2.2.1 _) (h:=?_)|refine aj.mk φ (hc:=cs.2.2.2.2.2.2.2.2.1 _) (h:=?_)|refine aj.mk φ (hc:=cs.2.2.2.2.2.2.2.2.2.1 _) (h:=?_)|refine aj.mk φ (hc:=cs.2.2.2.2.2.2.2.2.2.2.1 _) (h:=?_)|refine aj.mk φ (hc:=cs.2.2.2.2.2.2.2.2.2.2.2.1 _) (h:=?_)))));exact RW.nil ⟨by kernel_rfl,ak.mk (h:=rfl)⟩):RW P r st λ st' ts=>F ts/\ak L st' q:=by
 obtain⟨dK,st',ob,ts,h1,h2,h3,h4⟩:=hr φ cs;refine⟨dK,st',ob,ts,h1,h2,h3,?_⟩;unfold ak at h4 ⊢;rw[h4];exact h
theorem SW.gM (L:List Nat)(hm:P.follows .mixedOrders=true)(φ:Φ)(cs:C)(h:Q .normal uM)(hr:Φ->C->RF P L cZ bs draw st uM:=by
   intro φ cs;(repeat (first|refine RW.skip (h:=?_)|refine RW.ro φ (h:=?_)|refine RW.op φ (h:=?_)|refine RW.dV φ (h:=?_)|refine RW.br (h:=?_)|(refine RW.bC (h:=?_);(first|refine aj.mk φ (hc:=cs.1 _) (h:=?_)|refine aj.mk φ (hc:=cs.2.1 _) (h:=?_)|refine aj.mk φ (hc:=cs.2.2.1 _) (h:=?_)|refine aj.mk φ (hc:=cs.2.2.2.1 _) (h:=?_)|refine aj.mk φ (hc:=cs.2.2.2.2.1 _) (h:=?_)|refine aj.mk φ (hc:=cs.2.2.2.2.2.1 _) (h:=?_)|refine aj.mk φ (hc:=cs.2.2.2.2.2.2.1 _) (h:=?_)|refine aj.mk φ (hc:=cs.2.2.2.2.2.2.2.1 _) (h:=?_)|refine aj.mk φ (hc:=cs.2.2.2.2.2.2.2.2.1 _) (h:=?_)|refine aj.mk φ (hc:=cs.2.2.2.2.2.2.2.2.2.1 _) (h:=?_)|refine aj.mk φ (hc:=cs.2.2.2.2.2.2.2.2.2.2.1 _) (h:=?_)|refine aj.mk φ (hc:=cs.2.2.2.2.2.2.2.2.2.2.2.1 _) (h:=?_)))));exact RW.nil ⟨bM (by kernel_rfl),ak.mk (h:=rfl)⟩):SW P N k0 (.e_ cZ bs draw) st Q:=RF.sw hm (hr φ cs) h
end
end
section
section
variable {P:Program} {N k0:Nat} {st uM:St} {Q:Exit->St->Prop} {cZ:List SI} {bs:List Nat} {draw:Bool} {Φ C X:Prop}
theorem SW.gK (L:List Nat)(hm:P.follows .mixedOrders=true)(φ:Φ)(κ:X)(cs:C)(h:Q .normal uM)
  (hr:Φ->X->C->RF P L cZ bs draw st uM:=by
   intro φ κ cs;(repeat (first|refine RW.ro φ (h:=?_)|refine RW.skip (h:=?_)|refine RW.op φ (h:=?_)|refine RW.dV φ (h:=?_)|refine RW.br (h:=?_)|(refine RW.bC (h:=?_);(first|refine aj.mk φ (hc:=cs.1) (h:=?_)|refine aj.mk φ (hc:=cs.1 _) (h:=?_)|refine aj.mk φ (hs:=cs.1.1) (hc:=cs.1.2) (h:=?_)|refine aj.mk φ (hc:=cs.2.1) (h:=?_)|refine aj.mk φ (hc:=cs.2.1 _) (h:=?_)|refine aj.mk φ (hs:=cs.2.1.1) (hc:=cs.2.1.2) (h:=?_)|refine aj.mk φ (hc:=cs.2.2.1) (h:=?_)|refine aj.mk φ (hc:=cs.2.2.1 _) (h:=?_)|refine aj.mk φ (hs:=cs.2.2.1.1) (hc:=cs.2.2.1.2) (h:=?_)|refine aj.mk φ (hc:=cs.2.2.2.1) (h:=?_)|refine aj.mk φ (hc:=cs.2.2.2.1 _) (h:=?_)|refine aj.mk φ (hs:=cs.2.2.2.1.1) (hc:=cs.2.2.2.1.2) (h:=?_)))));exact RW.nil ⟨bM (by simp[rT,zW,gU,dh,List.range,List.range.loop,κ]<;>(first|decide|(repeat (first|assumption|refine⟨?_,?_⟩|exact .inl (by decide)|exact .inl (.inr (by decide))|exact .inl (.inl (by decide))|refine .inr ?_)))),ak.mk (h:=rfl)⟩):SW P N k0 (.e_ cZ bs draw) st Q:=RF.sw hm (hr φ κ cs) h
end
end
end Go.Sl
namespace Go.Sl
open Go.RowKit
section
variable {P:Program}
def SV.Plain (v:SV):Prop:=∀ (p p':Nat->Prop) (μ bh:Nat->Nm) (M M':Mem) (u:Value),Rp p μ M v u->Rp p' bh M' v u
theorem SV.DY (n:Nat):SV.Plain (u32 n):=λ p p' μ bh M M' u h=>by
 unfold u32 at h ⊢;rw[Rp.aR] at h ⊢;exact h
theorem SV.BO {p p':Nat->Prop}{μ bh:Nat->Nm}{M M':Mem}:∀ {cs:List SV} {l:List Value},(∀ c,c∈cs->SV.Plain c)->aS p μ M cs l->aS p' bh M' cs l
 | [],l,_,hr=>aS.aQ.2 (aS.aQ.1 hr)
 | c::cs,l,h,hr=>by
  obtain⟨u,us,rfl,h1,h2⟩:=aS.aD.1 hr;exact aS.aD.2 ⟨u,us,rfl,h c (by simp) p p' μ bh M M' u h1,SV.BO (λ c hc=>h c (by simp[hc])) h2⟩
theorem SV.DZ {cs:List SV}(h:∀ c,c∈cs->SV.Plain c):SV.Plain (.agg cs):=λ p p' μ bh M M' u hu=>by
 obtain⟨vs,rfl,hr⟩:=Rp.eO.1 hu;exact Rp.eO.2 ⟨vs,rfl,SV.BO h hr⟩
theorem C6 {M:Mem}{b:Nat}:∀ (o:Nat) (ds:List DV),(∀ i x,ds[i]? =some x->∃ u,M b (o+i)=some u/\bQ M x u)->dm M b o ds
 | _,[],_=>by simp[dm]
 | o,x::ds,h=>by
  simp only[dm];refine⟨by simpa using h 0 x rfl,C6 (o+1) ds λ i y hy=> ?_⟩;have:=h (i+1) y (by simpa using hy)
  rwa [show o+(i+1)=o+1+i by omega] at this
end
section
theorem aI {h:Hp}(hn:(h.map (·.1)).Nodup):∀ x,x∈h->lk h x.1=some x.2:=by
 induction h with
 | nil=>intro x hx;cases hx
 | cons y h ih=>
  intro x hx;rw[List.map_cons,List.nodup_cons] at hn;obtain⟨a,o⟩:=y;rw[af];rcases List.mem_cons.1 hx with rfl|hx
  .simp
  .have:x.1≠a:=λ e=>hn.1 (by rw[<- e];exact List.mem_map.2 ⟨x,hx,rfl⟩)
   rw[if_neg this];exact ih hn.2 x hx
def uw (F:Hp)(x:Nat×Ob):Nat×Ob:=match lk F x.1 with
 | some o=>(x.1,o)
 | none=>x
theorem Ar:∀ {h:Hp} {n:Nat} {o:Ob},(h.map (·.1)).Nodup->n∈h.map (·.1)->gJ h n o=h.map λ x=>if x.1=n then (n,o) else x
 | [],n,o,_,hm=>by cases hm
 | (m,o')::h,n,o,hn,hm=>by
  rw[List.map_cons,List.nodup_cons] at hn;simp only[gJ,List.map_cons]
  by_cases e:m=n
  .subst e
   simp only[if_true]
   congr 1
   symm
   conv=>rhs;rw[<- List.map_id h]
   refine List.map_congr_left λ x hx=> ?_
   rw[if_neg λ e=>hn.1 (by rw[<- e];exact List.mem_map.2 ⟨x,hx,rfl⟩)];rfl
  .rw[if_neg e,if_neg e,Ar hn.2 ((List.mem_cons.1 hm).resolve_left λ h=>e h.symm)]
theorem mS {h:Hp}{n:Nat}(hm:n∈h.map (·.1)):∃ o,lk h n=some o:=by
 induction h with
 | nil=>cases hm
 | cons y h ih=>
  obtain⟨m,o⟩:=y;rw[af]
  by_cases e:n=m
  .exact⟨o,by rw[if_pos e]⟩
  .rw[if_neg e]
   exact ih ((List.mem_cons.1 hm).resolve_left e)
theorem vL (F:Hp)(x:Nat×Ob):(uw F x).1=x.1:=by unfold uw;split<;>rfl
theorem xY {h:Hp}(hn:(h.map (·.1)).Nodup):∀ {F:Hp},(F.map (·.1)).Nodup->(∀ n,n∈F.map (·.1)->n∈h.map (·.1))->de h F=h.map (uw F)
 | [],_,_=>by
  simp only[de]
  conv=>lhs;rw[<- List.map_id h]
  rfl
 | (n,o)::F,hF,hsub=>by
  rw[List.map_cons,List.nodup_cons] at hF;have ih:=xY hn hF.2 λ m hm=>hsub m (List.mem_cons_of_mem _ hm)
  have hnames:(h.map (uw F)).map (·.1)=h.map (·.1):=by rw[List.map_map];exact List.map_congr_left λ x _=>vL F x
  have hmem:n∈(h.map (uw F)).map (·.1):=by rw[hnames];exact hsub n (by simp)
  simp only[de];rw[ih];unfold gf;obtain⟨o1,ho1⟩:=mS hmem;rw[ho1];dsimp only;rw[Ar (by rw[hnames];exact hn) hmem,List.map_map];refine List.map_congr_left λ x _=> ?_
  show(if (uw F x).1=n then (n,o) else uw F x)=uw ((n,o)::F) x;rw[vL];unfold uw;rw[af]
  by_cases e:x.1=n
  .simp[e]
  .simp[e]
theorem As {F:Hp}:∀ {A B:Hp},A.map (·.1)=B.map (·.1)->(∀ x,x∈B->lk F x.1=some x.2)->A.map (uw F)=B
 | [],[],_,_=>rfl
 | [],_::_,h,_=>by simp at h
 | _::_,[],h,_=>by simp at h
 | a::A,b::B,h,hl=>by
  simp only[List.map_cons,List.cons.injEq] at h ⊢;refine⟨?_,As h.2 λ x hx=>hl x (List.mem_cons_of_mem _ hx)⟩;have:=hl b (by simp);unfold uw;rw[h.1,this]
theorem ou {h F':Hp}:∀ {F:Hp},(∀ n,n∈F.map (·.1)->(lk F' n).isSome=true)->dg h F' F=h
 | [],_=>rfl
 | (n,o)::F,hs=>by
  simp only[dg];rw[if_pos (hs n (by simp)),ou λ m hm=>hs m (List.mem_cons_of_mem _ hm)]
theorem o9 {pre F F':Hp}(he:F.map (·.1)=F'.map (·.1))(hn:((pre++F).map (·.1)).Nodup):de (dg (pre++F) F' F) F'=pre++F':=by
 have hn2:(F'.map (·.1)).Nodup:=by rw[<- he];rw[List.map_append,List.nodup_append] at hn;exact hn.2.1
 rw[ou λ n h=>by rw[he] at h;obtain⟨o,ho⟩:=mS h;rw[ho];rfl];rw[xY hn hn2 λ n h=>by rw[List.map_append,List.mem_append,he];exact .inr h,List.map_append,As he (aI hn2)]
 congr 1
 conv=>rhs;rw[<- List.map_id pre]
 refine List.map_congr_left λ x hx=> ?_
 have : lk F' x.1=none:=by
  cases hh:lk F' x.1 with
  | none=>rfl
  | some o=>
   rw[List.map_append,List.nodup_append] at hn;have h1:x.1∈F'.map (·.1):=by
    have:∀ {h:Hp} {n:Nat} {o:Ob},lk h n=some o->n∈h.map (·.1):=by
     intro h
     induction h with
     | nil=>intro n o h;simp[bA] at h
     | cons y h ih=>
      intro n o hl;rw[af] at hl
      split at hl
      .rename_i e;subst e;simp
      .exact List.mem_cons_of_mem _ (ih hl)
    exact this hh
   exact absurd rfl (hn.2.2 x.1 (List.mem_map.2 ⟨x,hx,rfl⟩) x.1 (by rw[he];exact h1))
 unfold uw;rw[this];rfl
theorem s9 {n:Nat}{a b:Ob}{F F':Hp}(he:F.map (·.1)=F'.map (·.1))(hn:(((n,a)::F).map (·.1)).Nodup):de (dg ((n,a)::F) ((n,b)::F') F) F'=(n,a)::F':=by
 have h1:=o9 (pre:=[(n,a)]) he hn;rw[ou λ m hm=>by rw[he] at hm;obtain⟨o,ho⟩:=mS hm;rw[ho];rfl] at h1;rw[ou λ m hm=>by
  rw[he] at hm;obtain⟨o,ho⟩:=mS hm;rw[af]
  split
  .rfl
  .rw[ho];rfl]
 exact h1
theorem jj (F G:Hp)(m:Nat):lk (F++G) m=(lk F m).or (lk G m):=by
 unfold lk;exact List.lookup_append ..
theorem lI {F H:Hp}{n:Nat}{o:Ob}(hn:lk F n=none)(h:HSub F H):HSub F ((n,o)::H):=λ m ob hm=>by
 rw[af,if_neg λ e=>by rw[e,hn] at hm;cases hm];exact h m ob hm
theorem mT {h:Hp}{n:Nat}{o:Ob}(hl:lk h n=some o):n∈h.map (·.1):=by
 induction h with
 | nil=>simp[bA] at hl
 | cons y h ih=>
  rw[af] at hl
  split at hl
  .rename_i e;subst e;simp
  .exact List.mem_cons_of_mem _ (ih hl)
theorem jM {h:Hp}{n:Nat}(hn:n∉h.map (·.1)):lk h n=none:=by
 cases hh:lk h n with
 | none=>rfl
 | some o=>exact absurd (mT hh) hn
theorem eN {h:Hp}{n:Nat}(hn:lk h n=none):n∉h.map (·.1):=λ hm=>by
 obtain⟨o,ho⟩:=mS hm;rw[hn] at ho;cases ho
theorem rU {H:Hp}{n:Nat}{o:Ob}(hn:lk H n=none)(h:(H.map (·.1)).Nodup):(((n,o)::H).map (·.1)).Nodup:=by
 rw[List.map_cons,List.nodup_cons];exact⟨eN hn,h⟩
theorem aA {H:Hp}{n:Nat}{o:Ob}{q:Nat->Bool}(h1:q n=true)(h2:o.ok q=true)(h:H.ok q=true):Hp.ok q ((n,o)::H)=true:=by
 simp only[Hp.ok,List.all_cons,Bool.and_eq_true] at h ⊢;exact⟨⟨h1,h2⟩,h⟩
theorem bZ.trim {p:Nat->Prop}{μ:Nat->Nm}{M:Mem}{w:World}{m:Nm}{e sz len:Nat}{cs:List SV}(h:bZ p μ M w m (.arr e sz len cs)){n:Nat}(hn:n<=len):bZ p μ M w m (.arr e sz n (cs.take (n*sz))):=by
 rcases h with⟨h1,h2,h3⟩|⟨h0,vs,hb,h1,h2,h3,h4,h5⟩
 .subst h2;subst h3
  exact .inl ⟨h1,by omega,by simp⟩
 .have hle:n*sz<=len*sz:=Nat.mul_le_mul_right sz hn
  refine .inr ⟨h0,vs,hb,?_,by omega,h3,h4,?_⟩
  .rw[List.length_take,h1,Nat.min_eq_left hle]
  .have:=h5.take (n*sz)
   rwa [List.take_take,Nat.min_eq_left hle] at this
theorem SW.trim {P:Program}{N k0:Nat}{s:bP}{st:St}{Q:Exit->St->Prop}{n e sz len:Nat}{cs:List SV}(i:Nat)(hl:lk st.hp n=some (.arr e sz len cs))(hi:i<=len)
  (h:SW P N k0 s ⟨st.env,gf st.hp n (.arr e sz i (cs.take (i*sz))),st.k⟩ Q):SW P N k0 s st Q:=by
 refine λ cc hc rd hrf cq M0 w0 c0 a w fJ=>h cc hc rd hrf cq M0 w0 c0 a w ?_
 obtain⟨nI,hdf,hsz,μ,M,gL,hS,hE⟩:=fJ;refine⟨nI,hdf,hsz,μ,M,gL,⟨hS.mem,λ m ob hm=> ?_,λ m m' h1 h2=>hS.inj m m' ?_ ?_⟩,?_⟩
 .rw[rI] at hm
  split at hm
  .rename_i e;subst e
   injection hm with hm;subst hm;obtain⟨a1,a2,a3⟩:=hS.obs _ _ hl;exact⟨a1,a2.trim hi,a3⟩
  .exact hS.obs m ob hm
 .rw[rI] at h1
  split at h1
  .rename_i e;subst e;rw[hl];simp
  .exact h1
 .rw[rI] at h2
  split at h2
  .rename_i e;subst e;rw[hl];simp
  .exact h2
 .exact hE.zM λ m hm=>by
   rw[rI] at hm
   split at hm
   .rename_i e;subst e;rw[hl];simp
   .exact hm
theorem FY {P:Program}{op:Op}{neg:Bool}{kd:Nat}{x':X}(hc:cO P op=some (.iZ neg kd x')):∃ b t x y t',op= .binOp b t x y t'/\isEq b=true/\eF b=neg/\zS P t y=some kd/\cX x=some x':=by
 cases op<;>simp only[cO] at hc<;>try (cases hc;done)
 case binOp b t x y t'=>
  refine⟨b,t,x,y,t',rfl,?_⟩
  by_cases hq:isEq b=true
  .rw[if_pos hq] at hc
   split at hc
   .repeat' (first|contradiction|(cases hc;done)|split at hc)
   .repeat' (first|contradiction|(cases hc;done)|split at hc)
   .repeat' (first|contradiction|(cases hc;done)|split at hc)
   .repeat' (first|contradiction|(cases hc;done)|split at hc)
   .split at hc<;>try (cases hc;done)
    rename_i h1 h2;injection hc with hc;injection hc with e1 e2 e3;subst e2;subst e3;exact⟨hq,e1,h1,h2⟩
  .rw[if_neg hq] at hc
   repeat' (first|contradiction|(cases hc;done)|split at hc)
 all_goals (repeat' (first|contradiction|(cases hc;done)|(obtain⟨_,_,hh⟩:=Option.map_eq_some_iff.1 hc;cases hh;done)|split at hc))
theorem D0 {P:Program}{o:Oper}{E:Nat->Option SV}{H:Nat->Option Ob}{k:Nat}{neg:Bool}{x':X}{n:Nat}{cs:List DV}(hc:cO P o.op=some (.iZ neg 3 x'))(hx:ev E x'=some (.d (.sl n cs))):
  oh P o E H k 0 [] (λ v F'=>F'=[]/\(v= .d (.bool neg)\/(n=0/\v= .d (.bool !neg)))):=by
 obtain⟨op,t,x,y,t',ho,hop,hneg,hy,hcx⟩:=FY hc;subst hneg;refine⟨aY,λ rd p μ M a w K QQ hnew hk hS hK=> ?_⟩;obtain⟨A,c,e1,e2,e3,e4⟩:=(by simpa[bQ] using Rp.cB.1 (hk.get (by simp[ho,Op.operands]) hcx hx):∃ A cp,a.eval x= .slice A n cp/\n<=cp/\(n=0->cs=[])/\(0<n->∃ b q,A=some ⟨b,q,none⟩/\dm M b q cs));have hty:∃ e,P.underlying t=some (.slice e)/\a.eval y= .slice none 0 0:=by
  unfold zS at hy
  split at hy<;>try (cases hy;done)
  all_goals first
   | (injection hy with hy;cases hy;done)
   | exact⟨_,by assumption,rfl⟩
 obtain⟨el,hty,hyv⟩:=hty;have h0:∀ d,(Op.equalIn (d+1) t (a.eval x) (a.eval y)).run P w= .ok A.isNone w:=λ d=>by
  rw[e1,hyv];cases A<;>simp[Op.equalIn,run_underlying hty]
 have h1:=h0 9999;clear h0;have n5:eqGuard op t x y (a.eval x) (a.eval y)=Pure.pure ():=by rw[e1];simp[eqGuard_at_slice]
 have hb:(binOp op t (a.eval x) (a.eval y)).run P w= .ok (.bool (bif eF op then !A.isNone else A.isNone)) w:=by
  rw[e1,hyv] at h1 ⊢;rcases nC hop with rfl|rfl<;>simp[binOp,Op.equal,Op.maxDepth,h1,eF]
 have hex:(execOp a.eval o).run P w= .ok (.value (.bool (bif eF op then !A.isNone else A.isNone))) w:=by
  simp only[execOp,ho,Sem.run_bind,n5,Sem.run_pure,Result.andThen_ok,hb]
 refine iH hex (hK (.d (.bool (bif eF op then !A.isNone else A.isNone))) [] _ μ M w ⟨rfl,?_⟩ (Rp.bF.2 rfl) (hS.more λ _ h=> .inl h) (Ev.refl _ _ _ _ _ λ n h=>by simp[bA] at h))
 by_cases hn:n=0
 .cases A<;>cases eF op<;>simp[hn]
 .obtain⟨b,q,rfl,_⟩:=e4 (by omega)
  left;cases eF op<;>rfl
theorem bq.N8 {P:Program}{N k0:Nat}{st:St}{K:St->Prop}{si:SI}{r:List SI}{F:Hp}{nk:Nat}{Q:SV->Hp->Prop}(hg:si.g=none)(hq:∀ o:Oper,cO P o.op=some si.op->oh P o (λ t=>st.env.lookup t) (lk st.hp) st.k nk F Q)
  (hro:∀ v F',Q v F'->F'=F) (h:∀ v F',Q v F'->bq P N k0 r (l6 st si ⟨v,F,F',nk,True⟩) K):bq P N k0 (si::r) st K:=by
 refine bq.cons λ ops o hc hN rd cq M0 w0 c0 a w fJ i ho Q' KK FU=> ?_
 obtain⟨g1,g2,g3⟩:=gV hc;have hgn:o.guard=none:=by
  rcases g3 with⟨h,_⟩|⟨j,w,t,h,_,h'⟩
  .exact h
  .rw[hg] at h';cases h'
 unfold wpOpIn;simp only[ho,Region.wanted,hgn,if_true];exact(iF.step g2 (λ d hd=>hN d (by rw[g2];exact hd)) (hq o g1) (λ v F' hQ hr=>hro v F' hQ) fJ λ v F' hQ a' w' hSt'=>FU _ a' w' (h v F' hQ) hSt')
theorem SW.N9 {P:Program}{N k0:Nat}{st:St}{Q:Exit->St->Prop}{d s t n:Nat}{cs:List DV}{neg:Bool}{bs:List Nat}(hl:st.env.lookup s=some (.d (.sl n cs)))
  (h1:Q .normal ⟨(d,.d (.bool neg))::(t,.d (.sl n cs))::st.env,st.hp,st.k⟩) (h2:n=0->Q .normal ⟨(d,.d (.bool !neg))::(t,.d (.sl n cs))::st.env,st.hp,st.k⟩):
  SW P N k0 (.e_ [⟨some t,.mv (.t s),none⟩,⟨some d,.iZ neg 3 (.t t),none⟩] bs false) st Q:=by
 refine SW.xU (bq.one (dK:=[]) (c2:=[]) (e:=⟨.d (.sl n cs),[],[],0,True⟩) (by simp only[gd,fA,dI,ev,hl]) trivial ?_);refine bq.N8 rfl (λ o hc=>D0 (n:=n) (cs:=cs) hc (by simp[l6,ev])) (λ v F' h=>h.1) λ v F' hv=>bq.nil ?_
 obtain⟨rfl,rfl|⟨h0,rfl⟩⟩:=hv
 .exact h1
 .exact h2 h0
theorem SB.same {P:Program}{f:FuncId}{args:List SV}{F:Hp}{k nk:Nat}{v:SV}(h:SB P f args F k nk λ r F'=>r=v/\F'=F)(mz:F.ok (λ m=>(lk F m).isSome)=true)(ha:SV.ax (λ m=>(lk F m).isSome) args=true)(hv:∀ q,v.ok q=true):aH P f args F k nk v F:=by
 unfold aH;refine h.here (λ m=>(lk F m).isSome) (λ m h e=>by rw[e] at h;cases h) ha mz ?_;rintro x F' ⟨rfl,rfl⟩ _ _;exact⟨hv _,Hp.eA (λ m hm=>by rw[hm];rfl) mz⟩
end
section
variable {P:Program} {N k0:Nat}
theorem FZ {ops:Array Oper}{o:Oper}{si:SI}{st:St}{e:mH}{c1 c2:List CR}{i:Nat}{rd:Option Nat}{cq:Nat->Nm}{M0:Mem}{w0:World}{c0:Nat->Option Ob}{a:Act}{w:World}{Q':Exit->Act->World->Prop}{KK:Act->World->Prop}
  (ho:ops[i]? =some o) (hc:qx P ops o=some si) (hN:∀ d,si.dst=some d->d<N) (hop:gd P st si c1=some (e,c2)) (bt:e.ob) (fJ:iF N cq M0 w0 c0 k0 st a w) (FU:∀ a' w',iF N cq M0 w0 c0 k0 (l6 st si e) a' w'->KK a' w'):wpOpIn (jX rd) 0 P ops Q' i KK a w:=by
 obtain⟨b1,b2,b3⟩:=qI hc hop bt;obtain⟨g1,g2,g3⟩:=gV hc;unfold wpOpIn;simp only[ho];obtain⟨nI,hdf,hsz,μ,M,gL,hS,hE⟩:=fJ;have fJ:iF N cq M0 w0 c0 k0 st a w:=⟨nI,hdf,hsz,μ,M,gL,hS,hE⟩;rcases b1 with⟨j,want,t,sv,hg,hd,hE',hb,e1,e2,e3,e4⟩|⟨hg,hs⟩
 .have hv:=gL t _ hE'
  have hw:Region.wanted o (yielded ops a.tmps)=false:=by
   simp only[Region.wanted,hg];unfold mO at hb
   split at hb
   .rw[iN hd (Rp.bF.1 hv)]
    simpa using hb
   .obtain⟨vs,e,hvs⟩:=Rp.eP.1 hv
    have hvs0:vs= #[]:=by have:=aS.aQ.1 hvs;simpa using this
    rw[qF hd (by rw[e,hvs0];rfl)];rfl
   .cases hb
  simp only[hw,Bool.false_eq_true,if_false];obtain⟨v,F,F',nk,eo⟩:=e;simp only at e1 e2 e3 e4;subst e1;subst e2;subst e3;subst e4;exact⟨λ _ _=>trivial,FU _ _ (iF.skip g2 (λ d hd=>hN d (by rw[g2];exact hd)) fJ)⟩
 .have hw:Region.wanted o (yielded ops a.tmps)=true:=by
   rcases hg with hg|⟨j,want,t,hg,hd,hE'⟩
   .simp[Region.wanted,hg]
   .have hv:=Rp.bF.1 (gL t _ hE')
    simp only[Region.wanted,hg,iN hd hv];simp
  simp only[hw,if_true];exact(iF.step g2 (λ d hd=>hN d (by rw[g2];exact hd)) hs.q (λ v F' hQ hr=>by rw[hQ.2];exact b2 hr) fJ λ v F' hQ a' w' hSt'=>FU a' w' (by rw[hQ.1,hQ.2] at hSt';exact hSt'))
def Ny (n:Nat)(bs:List Nat)(mask:Nat):List Nat:=(List.range n).filter λ i=> !mask.testBit i && (List.range n).all λ j=> !gU bs j i || mask.testBit j
def xZ (P:Program)(N k0:Nat)(cZ:List SI)(bs:List Nat)(mask:Nat)(st:St)(K:St->Prop):Prop:=
 ∀ (ops:Array Oper),ops.size=cZ.length->(∀ (j:Nat) (si:SI),cZ[j]? =some si->∃ o:Oper,ops[j]? =some o/\qx P ops o=some si)->(∀ si∈cZ,∀ d,si.dst=some d->d<N)->okB ops bs=true->
  ∀ (rd:Option Nat) (cq:Nat->Nm) (M0:Mem) (w0:World) (c0:Nat->Option Ob) (fuel:Nat) (listed:Array Bool) (a:Act) (w:World),listed.size=ops.size->iO listed ops.size=fuel->u9 ops (λ j=>listed.getD j false)->
   (∀ j,j<ops.size->listed.getD j false=mask.testBit j)->iF N cq M0 w0 c0 k0 st a w->∀ Q':Exit->Act->World->Prop,(∀ st' a' w',K st'->iF N cq M0 w0 c0 k0 st' a' w'->Q' .normal a' w')->
   wpAnyIn (jX rd) 0 P .any ops Q' fuel listed a w
def Oa (P:Program)(N k0:Nat)(cZ:List SI)(bs:List Nat)(mask:Nat)(st:St)(K:St->Prop)(i:Nat):Prop:=
 ∃ si e c2,cZ[i]? =some si/\gd P st si []=some (e,c2)/\e.ob/\xZ P N k0 cZ bs (mask ||| 2 ^ i) (l6 st si e) K
theorem xZ.done {cZ:List SI}{bs:List Nat}{mask:Nat}{st:St}{K:St->Prop}(h:(List.range cZ.length).all (λ i=>mask.testBit i)=true)(hk:K st):xZ P N k0 cZ bs mask st K:=by
 intro ops hn kX hN hok rd cq M0 w0 c0 fuel listed a w hl hcnt hc hm fJ Q' hQ;have hall:∀ j,j<ops.size->listed.getD j true=true:=λ j hj=>by
  have h1:=List.all_eq_true.1 h j (List.mem_range.2 (by omega));have h2:=hm j hj;rw[h1] at h2
  simpa[show j<listed.size by omega] using h2
 have h0:fuel=0:=by rw[<- hcnt];exact qH hall
 subst h0;refine⟨List.eq_nil_iff_forall_not_mem.2 λ i hi=> ?_,hQ st a w hk fJ⟩;obtain⟨h1,o,h2,_⟩:=mem_ready.1 hi;rw[hall i (Array.getElem?_eq_some_iff.1 h2).1] at h1;cases h1
theorem xZ.step {cZ:List SI}{bs:List Nat}{mask:Nat}{st:St}{K:St->Prop}(hne:(List.range cZ.length).all (λ i=>mask.testBit i)=false)(h:∀ i∈Ny cZ.length bs mask,Oa P N k0 cZ bs mask st K i):xZ P N k0 cZ bs mask st K:=by
 intro ops hn kX hN hok rd cq M0 w0 c0 fuel listed a w hl hcnt hc hm fJ Q' hQ;have same:∀ j,j<ops.size->listed.getD j true=listed.getD j false:=λ j hj=>by simp[show j<listed.size by omega]
 cases fuel with
 | zero=>
  exfalso
  have hall:=oU hcnt;have:(List.range cZ.length).all (λ i=>mask.testBit i)=true:=List.all_eq_true.2 λ i hi=>by
   have hi:=List.mem_range.1 hi;rw[<- hm i (by omega),<- same i (by omega)];exact hall i (by omega)
  rw[this] at hne;cases hne
 | succ fuel=>
  refine⟨λ hr=> ?_,λ i hi=> ?_⟩
  .have:=qH (xL hok hl hr)
   omega
  .obtain⟨h1,o,h2,h3⟩:=mem_ready.1 hi
   have hi':i<ops.size:=(Array.getElem?_eq_some_iff.1 h2).1;have hn0:listed.getD i false=false:=by rw[<- same i hi'];exact h1
   have hp:CO ops (λ j=>listed.getD j false) i:=λ o' ho' e he hbd=>by
    rw[h2] at ho';injection ho' with ho';subst ho';exact h3 e he hbd
   have hin:i∈Ny cZ.length bs mask:=by
    unfold Ny;rw[List.mem_filter,List.mem_range];refine⟨by omega,?_⟩;rw[Bool.and_eq_true];refine⟨by rw[<- hm i hi',hn0];rfl,List.all_eq_true.2 λ j hj=> ?_⟩;have hj:=List.mem_range.1 hj;cases ho:gU bs j i with
    | false=>rfl
    | true=>
     rw[<- hm j (by omega),sS hok hc hi' (by omega) hp ho];rfl
   obtain⟨si,e,c2,g1,g2,g3,g4⟩:=h i hin;obtain⟨o',ho',hco⟩:=kX i si g1;rw[h2] at ho';injection ho' with ho';subst ho';have hD:∀ j,(listed.getD j false || j == i)=(listed.setIfInBounds i true).getD j false:=λ j=>by
    by_cases hji:j=i
    .subst hji
     simp[show j<listed.size by omega]
    .rw[getD_set_ne false (Ne.symm hji)]
     simp[beq_eq_false_iff_ne.2 hji]
   have fin:∀ a' w',iF N cq M0 w0 c0 k0 (l6 st si e) a' w'->wpAnyIn (jX rd) 0 P .any ops Q' fuel (listed.setIfInBounds i true) a' w':=λ a' w' hSt'=>by
    refine g4 ops hn kX hN hok rd cq M0 w0 c0 fuel _ a' w' (by simpa using hl) (by have:=qG h1 ops.size;simp[hi'] at this;omega) (λ j o' hDj ho' ed he hbd=> ?_) (λ j hj=> ?_) hSt' Q' hQ
    .simp only[<- hD] at hDj ⊢
     simp only[Bool.or_eq_true,beq_iff_eq] at hDj;rcases hDj with h|rfl
     .simp[hc j o' h ho' ed he hbd]
     .rw[h2] at ho';injection ho' with ho';subst ho'
      have:=h3 ed he hbd;simp[this]
    .rw[<- hD,hm j hj,Nat.testBit_or,Nat.testBit_two_pow]
     congr 1
     by_cases hji:j=i
     .subst hji;simp
     .rw[beq_eq_false_iff_ne.2 hji,decide_eq_false (λ e=>hji e.symm)]
   exact FZ h2 hco (λ d hd=>hN si (List.mem_of_getElem? g1) d hd) g2 g3 fJ fin
theorem SW.tree {st:St}{Q:Exit->St->Prop}{cZ:List SI}{bs:List Nat}(hm:P.follows .mixedOrders=true)(h:xZ P N k0 cZ bs 0 st (Q .normal)):SW P N k0 (.e_ cZ bs true) st Q:=by
 intro c hc rd hrf cq M0 w0 c0 a w fJ;cases c<;>simp only[cK] at hc<;>first
  | (cases hc;done)
  | (exfalso;split at hc<;>cases hc;done)
  | (exfalso;obtain⟨_,_,h'⟩:=Option.map_eq_some_iff.1 hc;cases h';done)
  | skip
 rename_i id ops draw
 split at hc<;>try (cases hc;done)
 rename_i sis' bs' hreg;injection hc with hc;injection hc with h1 h2 h3;subst h1;subst h2;subst h3;unfold FA at hreg
 split at hreg<;>try (cases hreg;done)
 rename_i sis2 hsis
 split at hreg<;>try (cases hreg;done)
 rename_i hchk;injection hreg with hreg;injection hreg with hr1 hr2;subst hr1;rw[hr2] at hchk;simp only[Bool.and_eq_true,Bool.not_true,Bool.false_or] at hchk;obtain⟨⟨hok,_⟩,hin⟩:=hchk;obtain⟨hlen,kX⟩:=nH hsis;have hn:ops.size=sis2.length:=by simpa using hlen
 refine wpIn_region_any hm ?_;have hSt2:iF N cq M0 w0 c0 k0 st a w.drew:=by
  obtain⟨b1,b2,b3,μ,M,b4,b5,b6⟩:=fJ;exact⟨b1,b2.ev b5 (Ev.refl _ (λ _=>False) _ _ _ λ _ _ h=>h).drew,b3,μ,M,b4,b5.drew,b6.drew⟩
 refine h ops hn (λ j si hj=> ?_) (λ si hs d hd=> ?_) hok rd cq M0 w0 c0 ops.size _ a w.drew (by simp) ?_ (λ j o h=> ?_) (λ j hj=>by simp[hj]) hSt2 _ λ st' a' w' hk hs=>⟨st',hk,hs⟩
 .have hj':j<ops.size:=by rw[hn];exact(List.getElem?_eq_some_iff.1 hj).1
  obtain⟨si',h1,h2⟩:=kX j ops[j] (by simp[hj']);rw[hj] at h1;injection h1 with h1;subst h1;exact⟨ops[j],Array.getElem?_eq_getElem hj',h2⟩
 .have:=List.all_eq_true.1 hin si hs
  rw[hd] at this
  simpa using this
 .have:∀ n,n<=ops.size->iO (Array.replicate ops.size false) n=n:=by
   intro n
   induction n with
   | zero=>intro _;rfl
   | succ n ih=>intro hn';simp only[iO,ih (by omega)];simp[show n<ops.size by omega]
  exact this _ (Nat.le_refl _)
 .exfalso
  by_cases hj:j<ops.size
  .simp[hj] at h
  .simp[hj] at h
end
section
variable {P:Program} {N k0:Nat} {cZ:List SI} {bs:List Nat} {mask:Nat} {st:St} {K:St->Prop}
theorem xZ.s1 (i:Nat)(hne:(List.range cZ.length).all (λ i=>mask.testBit i)=false:=by kernel_rfl)(hr:Ny cZ.length bs mask=[i]:=by rfl)(h1:Oa P N k0 cZ bs mask st K i):xZ P N k0 cZ bs mask st K:=
 xZ.step hne λ j hj=>by rw[hr] at hj;simp at hj;subst hj;exact h1
theorem xZ.s2 (i j:Nat)(hne:(List.range cZ.length).all (λ i=>mask.testBit i)=false:=by kernel_rfl)(hr:Ny cZ.length bs mask=[i,j]:=by rfl)(h1:Oa P N k0 cZ bs mask st K i)(h2:Oa P N k0 cZ bs mask st K j):xZ P N k0 cZ bs mask st K:=
 xZ.step hne λ q hj=>by rw[hr] at hj;simp at hj;rcases hj with rfl|rfl<;>assumption
theorem xZ.s3 (i j l:Nat)(hne:(List.range cZ.length).all (λ i=>mask.testBit i)=false:=by kernel_rfl)(hr:Ny cZ.length bs mask=[i,j,l]:=by rfl)(h1:Oa P N k0 cZ bs mask st K i)(h2:Oa P N k0 cZ bs mask st K j)(h3:Oa P N k0 cZ bs mask st K l):xZ P N k0 cZ bs mask st K:=
 xZ.step hne λ q hj=>by rw[hr] at hj;simp at hj;rcases hj with rfl|rfl|rfl<;>assumption
theorem Oa.mk {i:Nat}{d:Option Nat}{op:SO}{g:Option (Nat×Bool)}{env env':List (Nat×SV)}{hp oL F F':Hp}{k k' mask':Nat}{v:SV}{nk:Nat}{ob:Prop}{Φ:Prop}(φ:Φ)
  (hsi:cZ[i]? =some ⟨d,op,g⟩:=by rfl)
  (hg:g=none\/∃ t w,g=some (t,w)/\env.lookup t=some (.d (.bool w)):=by first|exact .inl rfl|exact .inr ⟨_,_,rfl,rfl⟩)
  (he:Φ->fA P ⟨env,hp,k⟩ op []=some (⟨v,F,F',nk,ob⟩,[]):=by
   intro φ;simp(disch:=omega) only[Go.Sl.seg,lT,gX,fA,dI,ev,qu,zK,l6,List.lookup,Nat.reduceBEq,Nat.reduceAdd,Nat.reduceMul,Nat.zero_add,SV.cells,if_true,if_false,reduceIte,Bool.false_eq_true,dh,bU,de,dg,gf,gJ,c_,lk,List.filter,Nat.reduceBNe,bne_self_eq_false,eq_self,Bq,zJ,gC,wY,wZ,Fj,ay.cells_one,BEq.rfl,beq_self_eq_true,Bool.true_or,Nat.reduceEqDiff,List.map_cons,List.map_nil,List.nil_append,List.cons_append,List.append_nil,Int.toNat_natCast,Nat.mul_one,Nat.add_zero,jb,ja,kS,iP,iQ,iR,iS,iT,iU,kT,Option.isSome_some,Option.isSome_none,Option.isNone_some,Option.isNone_none,Nat.zero_ne_one,Nat.one_ne_zero,Bool.and_false,Bool.and_true,List.drop_zero,ay.aM,ay.bk,ay.bB,Dt.cells_one,Dt.bk,Dt.Bz,Dt.BA,Dt.bB,Dt.aM,Dt.BJ,Dt.BK,nB,fF,w_,uZ,List.all_cons,List.all_nil,SV.dX,Int.cast_ofNat_Int,Int.reduceBNe,Int.reduceBEq,Int.reduceLT,Int.reduceLE,Int.reduceGT,Int.reduceGE,nM,vk,vm,Bool.not_true,Bool.not_false,Bool.or_false,Bool.or_true,Bool.false_or,Bool.or_self,ay.qL,ay.BB,ay.vi,ay.vj,ay.dM,ay.dN,Dt.qL,Dt.BC,Dt.dM,Dt.dN,List.all_append,ay.Ai,Dt.rj,Bool.cond_true,Bool.cond_false,wrap_i64,jL,wrap_u32',wrap_u8',aa,vD,lG,lH,Int.reduceToNat,List.length_nil,List.getElem?_cons_zero,List.getElem?_cons_succ,List.take_succ_cons,List.take_zero,List.drop_succ_cons,decide_true,decide_false,Bool.true_and,Bool.and_self,Bool.false_and,nO,nP,lz,lB,jK,MM.eL,lC,oZ,nV,nY,nT,nW,nU,nX,nR,nS,ag.cells_one,ag.bk,ag.lE,ag.BD,ag.vt,ag.BE,ag.lF,ag.vu,ag.vv,ag.L9,ag.iV,ag.iW,ag.qM,ag.L_,ag.BF,ag.vw,ag.BG,ag.qN,ag.qO,ag.vz,ag.vA,ag.bB,ag.aM,Cr.cells_one,Cr.bk,Cr.lE,Cr.lF,Cr.BI,Cr.vC,Cr.iV,Cr.iW,Cr.qM,Cr.qP,Cr.bB,Cr.aM,Cr.rj,nZ,n9,n_,od,Sp.cells_one,Sp.bk,Sp.lE,Sp.gN,Sp.bB,Sp.aM,Sp.fC,Sp.rj,og,oe,φ]
   with_reducible rfl)
  (bt:ob:=by first|trivial|(repeat' (first|exact trivial|omega|apply Zq|(simp[-List.length_flatMap,-Int.natCast_add];done)|(simp[-List.length_flatMap,-Int.natCast_add]<;>omega))))
  (hh:Φ->bU (dh op) hp F F'=oL:=by (intro φ;simp only[φ,dh,bU,de,dg,gf,gJ,c_,lk,List.lookup,Nat.reduceBEq,BEq.rfl,beq_self_eq_true,if_true,if_false,reduceIte,Nat.reduceEqDiff,Bool.false_eq_true,Option.isSome_some,Option.isSome_none]<;>with_reducible rfl))
  (hk:k+nk=k':=by first|(simp only[Nat.add_zero,Nat.reduceAdd]<;>rfl)|rfl)
  (hm:mask ||| 2 ^ i=mask':=by first|(simp only[Nat.reducePow,Nat.reduceOr]<;>rfl)|rfl)
  (Pu:rR d v env=env':=by (simp only[rR]<;>rfl))
  (h:xZ P N k0 cZ bs mask' ⟨env',oL,k'⟩ K):Oa P N k0 cZ bs mask ⟨env,hp,k⟩ K i:=by
 subst hm;refine⟨⟨d,op,g⟩,⟨v,F,F',nk,ob⟩,[],hsi,fW hg (he φ),bt,?_⟩;rw[iX,hh φ,hk,Pu];exact h
end
section
end
section
variable {P:Program}
structure pY {σ:Type}(G:Hp)(Fh:σ->Hp)(s:σ)(kk:Nat):Prop where
 nd:(G.map (·.1)).Nodup
 lt:∀ n,n∈G.map (·.1)->n<kk
 no:∀ n,n∈G.map (·.1)->lk (Fh s) n=none
 ok:G.ok (λ n=>decide (n<kk))=true
 okF:(Fh s).ok (λ n=>decide (n<kk))=true
theorem iw {G:Hp}{n:Nat}(h:n∉G.map (·.1)):lk G n=none:=by
 cases hh:lk G n with
 | none=>rfl
 | some o=>
  exfalso;apply h
  clear h
  induction G with
  | nil=>simp[bA] at hh
  | cons x G ih=>
   rw[af] at hh
   split at hh
   .rename_i e;rw[e];simp
   .rw[List.map_cons];exact List.mem_cons_of_mem _ (ih hh)
section
variable {σ:Type} {G:Hp} {Fh:σ->Hp} {s:σ} {kk:Nat}
theorem pY.sub (h:pY G Fh s kk):HSub (Fh s) (G++Fh s):=λ n ob hn=>by
 have:n∉G.map (·.1):=λ hm=>by rw[h.no n hm] at hn;cases hn
 rw[jj,iw this,Option.none_or];exact hn
theorem pY.all (h:pY G Fh s kk)(hF:∀ x,x∈Fh s->lk (Fh s) x.1=some x.2):∀ x,x∈G++Fh s->lk (G++Fh s) x.1=some x.2:=λ x hx=>by
 rcases List.mem_append.1 hx with hx|hx
 .rw[jj,aI h.nd x hx];rfl
 .exact h.sub x.1 x.2 (hF x hx)
theorem pY.tY (h:pY G Fh s kk):(G++Fh s).ok (λ n=>decide (n<kk))=true:=by
 have h1:=h.ok;have h2:=h.okF;unfold Hp.ok at*;rw[List.all_append,h1,h2];rfl
theorem pY.mono {k':Nat}(h:pY G Fh s kk)(hk:kk<=k'):pY G Fh s k':=⟨h.nd,λ n hn=>Nat.lt_of_lt_of_le (h.lt n hn) hk,h.no,Hp.bJ hk h.ok,Hp.bJ hk h.okF⟩
theorem pY.less {G':Hp}(h:pY G Fh s kk)(hs:G'.Sublist G):pY G' Fh s kk:=
 ⟨h.nd.sublist (hs.map _),λ n hn=>h.lt n ((hs.map _).subset hn),λ n hn=>h.no n ((hs.map _).subset hn),by
  have:=h.ok;unfold Hp.ok at*;rw[List.all_eq_true] at*;exact λ x hx=>this x (hs.subset hx),h.okF⟩
theorem pY.out (h:pY G Fh s kk){n:Nat}(hn:kk<=n):lk (Fh s) n=none:=Hp.out h.okF hn
theorem pY.new {n k':Nat}{ob:Ob}(h:pY G Fh s kk)(hn:kk<=n)(hk:n<k')(ho:ob.ok (λ m=>decide (m<k'))=true):pY ((n,ob)::G) Fh s k':=by
 refine⟨List.nodup_cons.2 ⟨λ hm=> ?_,h.nd⟩,λ m hm=> ?_,λ m hm=> ?_,?_,Hp.bJ (by omega) h.okF⟩
 .have:=h.lt n hm;omega
 .rcases List.mem_cons.1 hm with rfl|hm
  .exact hk
  .have:=h.lt m hm;omega
 .rcases List.mem_cons.1 hm with rfl|hm
  .exact h.out hn
  .exact h.no m hm
 .have:=Hp.bJ (show kk<=k' by omega) h.ok
  unfold Hp.ok at*;rw[List.all_cons,this,ho]
  simpa using hk
theorem pY.keep {G1:Hp}(h1:pY G1 Fh s kk)(hs:∀ x,x∈G->x∈G1):∀ n ob,lk (G++Fh s) n=some ob->lk (G1++Fh s) n=some ob:=λ n ob hn=>by
 rw[jj] at hn;cases hg:lk G n with
 | some o=>
  rw[hg] at hn;have e:o=ob:=by simpa using hn
  have hm:(n,o)∈G:=by
   clear hn hs
   induction G with
   | nil=>simp[bA] at hg
   | cons x G ih=>
    rw[af] at hg
    split at hg
    .rename_i e;injection hg with hg;rw[e,<- hg];simp
    .exact List.mem_cons_of_mem _ (ih hg)
  rw[jj,aI h1.nd _ (hs _ hm),<- e];rfl
 | none=>
  rw[hg,Option.none_or] at hn;have:n∉G1.map (·.1):=λ hm=>by rw[h1.no n hm] at hn;cases hn
  rw[jj,iw this,Option.none_or];exact hn
theorem aG.own {k0 k:Nat}{env rL:List (Nat×SV)}{hp:Hp}(h:pY G Fh s kk)(hF:∀ x,x∈Fh s->lk (Fh s) x.1=some x.2)(hk:k0<=kk)(he:aJ id kk env rL)(hh:∀ n ob,lk (G++Fh s) n=some ob->lk hp n=some ob):aG k0 ⟨env,hp,k⟩ ⟨rL,G++Fh s,kk⟩ id:=
 aG.same hk he h.tY λ x hx=>hh _ _ (h.all hF x hx)
end
section
variable {N k0:Nat} {K:St->Prop}
end
end
section
def Ob.iJ (n len:Nat)(ds:List DV):Ob->Ob
 | .box t cs=> .box t (SV.j4 n len ds cs)
 | .map es c=> .map (es.map λ e=>(e.1,e.2.1,e.2.2.iJ n len ds)) c
 | o=>o
theorem gA.iJ {p:Nat->Prop}{μ:Nat->Nm}{M:Mem}{n len:Nat}{ds:List DV}(hg:∀ v,Rp p μ M (.gs n len) v->Rp p μ M (.d (.sl len ds)) v):∀ (r:List (Nat×SV×SV)) (es:List MapEntry),gA p μ M r es->gA p μ M (r.map λ e=>(e.1,e.2.1,e.2.2.iJ n len ds)) es
 | [],es,h=>h
 | (b,k,v)::r,es,⟨e,es',h1,h2,h3,h4,h5⟩=>⟨e,es',h1,h2,h3,SV.pT hg v _ h4,gA.iJ hg r es' h5⟩
def D1 (n len:Nat)(ds:List DV)(h:Hp):Hp:=h.map λ x=>(x.1,x.2.iJ n len ds)
theorem C7 (n len:Nat)(ds:List DV):∀ (h:Hp) (m:Nat),lk (D1 n len ds h) m=(lk h m).map (Ob.iJ n len ds)
 | [],m=>rfl
 | (q,o)::h,m=>by
  have ih:=C7 n len ds h m;unfold D1 at ih ⊢;rw[List.map_cons,af,af]
  split
  .rfl
  .exact ih
abbrev C8 (φ:Ob->Ob)(n len:Nat)(ds:List DV):Prop:=∀ (p:Nat->Prop) (μ:Nat->Nm) (M:Mem) (w:World),(∀ v,Rp p μ M (.gs n len) v->Rp p μ M (.d (.sl len ds)) v)->∀ m o,bZ p μ M w m o->bZ p μ M w m (φ o)
abbrev vM (φ:Ob->Ob)(h:Hp):Hp:=h.map λ x=>(x.1,φ x.2)
theorem mU (φ:Ob->Ob):∀ (h:Hp) (m:Nat),lk (vM φ h) m=(lk h m).map φ
 | [],m=>rfl
 | (q,o)::h,m=>by
  have ih:=mU φ h m;unfold vM at ih ⊢;rw[List.map_cons,af,af]
  split
  .rfl
  .exact ih
theorem bR.N_ {p:Nat->Prop}{μ:Nat->Nm}{M:Mem}{w:World}{h:Hp}{n len:Nat}{ds:List DV}{φ:Ob->Ob}(hφ:C8 φ n len ds)(hS:bR p μ M (lk h) w)(hg:∀ v,Rp p μ M (.gs n len) v->Rp p μ M (.d (.sl len ds)) v):bR p μ M (lk (vM φ h)) w:=by
 refine⟨⟨hS.mem.cell,hS.mem.kP⟩,λ m ob hm=> ?_,λ m m' hm hm'=> ?_⟩
 .rw[mU] at hm
  obtain⟨o,ho,rfl⟩:=Option.map_eq_some_iff.1 hm;obtain⟨a1,a2,a3⟩:=hS.obs m o ho;exact⟨a1,hφ p μ M w hg _ _ a2,a3⟩
 .have key:∀ m,lk (vM φ h) m≠none->lk h m≠none:=λ m hm hn=>hm (by rw[mU,hn];rfl)
  exact hS.inj m m' (key m hm) (key m' hm')
theorem BP (n len:Nat)(ds:List DV):C8 (Ob.iJ n len ds) n len ds:=λ p μ M w hg m o a2=>by
 cases o with
 | box t cs=>
  simp only[bZ,Ob.iJ] at a2 ⊢;obtain⟨b1,vs,b2,b3⟩:=a2;exact⟨b1,vs,b2,SV.oW hg cs _ b3⟩
 | map es c=>
  simp only[bZ,Ob.iJ] at a2 ⊢;obtain⟨b1,vs,b2,b3⟩:=a2;exact⟨b1,vs,b2,gA.iJ hg es _ b3⟩
 | _=>exact a2
def Ob.yZ (n len:Nat)(ds:List DV):Ob->Ob
 | .arr e sz l cs=> .arr e sz l (SV.j4 n len ds cs)
 | o=>o.iJ n len ds
theorem Au (n len:Nat)(ds:List DV):∀ (cs:List SV),(SV.j4 n len ds cs).length=cs.length
 | []=>rfl
 | c::cs=>by simp only[SV.j4,List.length_cons,Au n len ds cs]
theorem Jr (n len:Nat)(ds:List DV):C8 (Ob.yZ n len ds) n len ds:=λ p μ M w hg m o a2=>by
 cases o with
 | arr e sz l cs=>
  simp only[bZ,Ob.yZ] at a2 ⊢;rcases a2 with⟨b1,b2,b3⟩|⟨b1,vs,b2,b3,b4,b5,b6,b7⟩
  .exact .inl ⟨b1,b2,by rw[b3];rfl⟩
  .exact .inr ⟨b1,vs,b2,by rw[Au];exact b3,b4,b5,b6,SV.oW hg cs _ b7⟩
 | box t cs=>exact BP n len ds p μ M w hg m _ a2
 | map es c=>exact BP n len ds p μ M w hg m _ a2
 | _=>exact a2
section
variable {P:Program} {N k0:Nat} {st:St} {Q:Exit->St->Prop}
theorem iF.C9 {φ:Ob->Ob}{cq:Nat->Nm}{M0:Mem}{w0:World}{c0:Nat->Option Ob}{a:Act}{w:World}(n:Nat){e sz len:Nat}{cs:List SV}{ds:List DV}(hφ:C8 φ n len ds)(hn:lk st.hp n=some (.arr e sz len cs))(hcs:cs=ds.map .d)
    (h:iF N cq M0 w0 c0 k0 st a w):iF N cq M0 w0 c0 k0 ⟨k9 n len ds st.env,vM φ (c_ st.hp n),st.k⟩ a w:=by
  subst hcs;obtain⟨nI,hdf,hsz,μ,M,gL,hS,hE⟩:=h;obtain⟨hpn,bt,hMn⟩:=hS.obs n _ hn;rcases bt with⟨hdead,hl0,hds⟩|⟨hlive,vs,hb,hl1,hl2,Nu,hl4,hr⟩
  . have hd0:ds=[]:=by simpa using hds
    subst hd0;subst hl0;have hg:∀ v,Rp (· <st.k) μ M (.gs n 0) v->Rp (· <st.k) μ M (.d (.sl 0 [])) v:=λ v hv=>by
      refine Rp.cB.2 ?_;simp only[bQ];obtain⟨h,_⟩|⟨_,_,A,e1⟩:=hv.lY
      . rw[hdead] at h;cases h
      . exact⟨A,0,e1,Nat.le_refl _,λ _=>trivial,λ h=>absurd h (Nat.lt_irrefl _)⟩
    have hsub:∀ m ob,lk (c_ st.hp n) m=some ob->lk st.hp m=some ob:=λ m ob hm=>by
      rw[dx] at hm
      split at hm
      . cases hm
      . exact hm
    refine⟨nI,hdf,hsz,μ,M,λ t s hs=> ?_,(hS.sub hsub).N_ hφ hg,hE.zM λ m hm=> ?_⟩
    . rw[k_] at hs
      obtain⟨s',hs',rfl⟩:=Option.map_eq_some_iff.1 hs;exact SV.pT hg s' _ (gL t s' hs')
    . obtain⟨o1,ho1⟩:=Option.ne_none_iff_exists'.1 hm
      rw[mU] at ho1;obtain⟨o2,ho2,_⟩:=Option.map_eq_some_iff.1 ho1;rw[hsub m o2 ho2];simp
  have hMn:=hMn hlive;have hlen:ds.length=len*sz:=by simpa using hl1
  let M':Mem:=λ b o=>if b=(μ n).blk then (if o<len*sz then vs[o]? else none) else M b o
  have hne:∀ b,b≠(μ n).blk->∀ o,M' b o=M b o:=λ b hb o=>by simp[M',hb]
  have hle:Mem.le M M':=λ b o v hv=>by
    have:b≠(μ n).blk:=λ e=>by rw[e,hMn] at hv;cases hv
    rw[hne b this];exact hv
  have hoth:∀ m,lk st.hp m≠none->m≠n->(μ m).live=true->(μ m).blk≠(μ n).blk:=λ m hm hmn lm e=>hmn (hS.inj m n hm (by rw[hn];simp) lm hlive e)
  have hsub:∀ m ob,lk (c_ st.hp n) m=some ob->lk st.hp m=some ob/\m≠n:=λ m ob hm=>by
    rw[dx] at hm
    split at hm
    . cases hm
    . rename_i e;exact⟨hm,e⟩
  have hg:∀ v,Rp (· <st.k) μ M' (.gs n len) v->Rp (· <st.k) μ M' (.d (.sl len ds)) v:=λ v hv=>by
    obtain⟨_,e1⟩|⟨h,_⟩:=hv.lY
    rotate_left
    . rw[hlive] at h;cases h
    refine Rp.cB.2 ?_;simp only[bQ];refine⟨_,_,e1,hl2,λ h0=> ?_,λ _=>⟨_,_,rfl,dm.mk λ i c hi=> ?_⟩⟩
    . subst h0
      simp at hlen;exact hlen
    . obtain⟨u,hu,hru⟩:=hr.K4 hi
      have hil:i<len*sz:=by rw[<- hlen];exact(List.getElem?_eq_some_iff.1 hi).1
      refine⟨u,?_,bQ.mono hle _ _ hru⟩;rw[List.getElem?_take_of_lt hil] at hu;simp only[M',if_true,Nat.zero_add,hil]
      simpa using hu
  have hS2:bR (· <st.k) μ M' (lk (c_ st.hp n)) w:=by
    refine⟨⟨λ b o v hv=> ?_,hS.mem.kP.le hle⟩,λ m ob hm=> ?_,λ m m' hm hm' lm lm' e=> ?_⟩
    . by_cases hbn:b=(μ n).blk
      . subst hbn
        simp only[M',if_true] at hv
        split at hv
        . rw[cell_of hb];exact hv
        . cases hv
      . rw[hne b hbn] at hv
        exact hS.mem b o v hv
    . obtain⟨hm1,hmn⟩:=hsub m ob hm
      obtain⟨a1,a2,a3⟩:=hS.obs m ob hm1;refine⟨a1,a2.more (λ _ h=>h) (λ _ _=>rfl) hle λ _=>rfl,λ lm o=> ?_⟩;rw[hne _ (hoth m (by rw[hm1];simp) hmn lm)];exact a3 lm o
    . obtain⟨o1,ho1⟩:=Option.ne_none_iff_exists'.1 hm
      obtain⟨o2,ho2⟩:=Option.ne_none_iff_exists'.1 hm';exact hS.inj m m' (by rw[(hsub m o1 ho1).1];simp) (by rw[(hsub m' o2 ho2).1];simp) lm lm' e
  refine⟨nI,hdf,hsz,μ,M',λ t s hs=> ?_,hS2.N_ hφ hg,⟨hE.old,Mem.le_trans hE.mem hle,λ b hb0 hf=> ?_,hE.size,λ m hm=> ?_,hE.os,hE.tape,hE.output⟩⟩
  . rw[k_] at hs
    obtain⟨s',hs',rfl⟩:=Option.map_eq_some_iff.1 hs;exact SV.pT hg s' _ ((gL t s' hs').more (λ _ h=>h) (λ _ _=>rfl) hle)
  . have hbn:b≠(μ n).blk:=λ e=>by
      rcases hE.names n (by rw[hn];simp) with⟨_,hh⟩|⟨h,h'⟩
      . rcases hh hlive with h|⟨m,hm,lm,e'⟩
        . omega
        . exact hf m hm lm (e'.trans e.symm)
      . rw[hE.old n h] at e hlive
        exact hf n h' hlive e.symm
    obtain⟨f1,f2⟩:=hE.frame b hb0 hf;exact⟨f1,λ o=>by rw[hne b hbn];exact f2 o⟩
  . obtain⟨o1,ho1⟩:=Option.ne_none_iff_exists'.1 hm
    rw[mU] at ho1;obtain⟨o2,ho2,_⟩:=Option.map_eq_some_iff.1 ho1;exact hE.names m (by rw[(hsub m o2 ho2).1];simp)
theorem iF.uN {cq:Nat->Nm}{M0:Mem}{w0:World}{c0:Nat->Option Ob}{a:Act}{w:World}(n:Nat){e sz len:Nat}{cs:List SV}{ds:List DV}(hn:lk st.hp n=some (.arr e sz len cs))(hcs:cs=ds.map .d)
  (h:iF N cq M0 w0 c0 k0 st a w):iF N cq M0 w0 c0 k0 ⟨k9 n len ds st.env,D1 n len ds (c_ st.hp n),st.k⟩ a w:=h.C9 n (BP n len ds) hn hcs
theorem SW.Js {s:bP}(n:Nat){e sz len:Nat}{cs:List SV}(ds:List DV)(hn:lk st.hp n=some (.arr e sz len cs))(hcs:cs=ds.map .d)(h:SW P N k0 s ⟨k9 n len ds st.env,vM (Ob.yZ n len ds) (c_ st.hp n),st.k⟩ Q):SW P N k0 s st Q:=
 λ c hc rd hrf cq M0 w0 c0 a w fJ=>h c hc rd hrf cq M0 w0 c0 a w (fJ.C9 n (Jr n len ds) hn hcs)
theorem SW.uN {s:bP}(n:Nat){e sz len:Nat}{cs:List SV}(ds:List DV)(hn:lk st.hp n=some (.arr e sz len cs))(hcs:cs=ds.map .d)(h:SW P N k0 s ⟨k9 n len ds st.env,D1 n len ds (c_ st.hp n),st.k⟩ Q):SW P N k0 s st Q:=
 λ c hc rd hrf cq M0 w0 c0 a w fJ=>h c hc rd hrf cq M0 w0 c0 a w (fJ.uN n hn hcs)
end
end
section
variable {P:Program}
end
section
variable {P:Program}
theorem iF.y2 {N k0:Nat}{st:St}{cq:Nat->Nm}{M0:Mem}{w0:World}{c0:Nat->Option Ob}{a:Act}{w:World}(x ty i:Nat)(e sz:Nat){cs:List SV}(ht:lk st.hp x=some (.box ty cs))(hi:cs[i]? =some (.d .aL))(h:iF N cq M0 w0 c0 k0 st a w):
    iF N cq M0 w0 c0 k0 ⟨st.env,(x,.box ty (cs.set i (.gs st.k 0)))::(st.k,.arr e sz 0 [])::st.hp,st.k+1⟩ a w:=by
  obtain⟨nI,hdf,hsz,μ,M,gL,hS,hE⟩:=h;have hmu:=uX (μ:=μ) (m:=⟨0,0,false⟩) (p:=(· <st.k)) (k:=st.k) (Nat.lt_irrefl _);have hup:∀ n,n<st.k->n<st.k+1:=λ n h=>by omega
  have hlt:∀ n ob,lk st.hp n=some ob->n<st.k:=λ n ob h=>(hS.obs n ob h).1
  have hxk:=hlt x _ ht;have hne:∀ n,n≠st.k->lk ((x,.box ty (cs.set i (.gs st.k 0)))::(st.k,.arr e sz 0 [])::st.hp) n≠none->lk st.hp n≠none:=λ n h1 h2=>by
    rw[af] at h2
    split at h2
    . rename_i e1;rw[e1,ht];simp
    . rw[af,if_neg h1] at h2;exact h2
  refine⟨by show k0<=st.k+1;omega,hdf,hsz,zN μ st.k ⟨0,0,false⟩,M,λ u s hs=> ?_,⟨hS.mem,λ n ob hn=> ?_,λ n m hn hm ln lm e=> ?_⟩,⟨λ n hn=> ?_,hE.mem,hE.frame,hE.size,λ n hn=> ?_,hE.os,hE.tape,hE.output⟩⟩
  . exact(gL u s hs).more hup hmu (Mem.le_refl M)
  . rw[af] at hn
    split at hn
    . rename_i e1
      subst e1;injection hn with hn;subst hn;obtain⟨a1,⟨hl,vs,hb,hr⟩,a3⟩:=hS.obs n _ ht;rw[hmu n a1];refine⟨hup n a1,⟨hl,vs,hb,?_⟩,a3⟩;have hr:=hr.more hup hmu (Mem.le_refl M);obtain⟨v,hv,h1⟩:=hr.get hi;have h1:=h1.rep;simp only[cW,bQ] at h1;have hg:Rp (· <st.k+1) (zN μ st.k ⟨0,0,false⟩) M (.gs st.k 0) v:=by
        intro ν ig;simp only[cW];rw[ig st.k (Nat.lt_succ_self _),bz];exact .inr ⟨rfl,trivial,none,h1⟩
      have h2:=hr.set i hg;obtain⟨hiv,ev⟩:=List.getElem?_eq_some_iff.1 hv
      rwa [<- ev,List.set_getElem_self hiv] at h2
    . rw[af] at hn
      split at hn
      . rename_i e1
        subst e1;injection hn with hn;subst hn;rw[bz];exact⟨Nat.lt_succ_self _,.inl ⟨rfl,rfl,rfl⟩,λ h=>by cases h⟩
      . obtain⟨a1,a2,a3⟩:=hS.obs n ob hn
        rw[hmu n a1];exact⟨hup n a1,a2.more hup hmu (Mem.le_refl M) λ _=>rfl,a3⟩
  . by_cases e1:n=st.k
    . subst e1;rw[bz] at ln;cases ln
    . by_cases e2:m=st.k
      . subst e2;rw[bz] at lm;cases lm
      . have hn:=hne n e1 hn
        have hm:=hne m e2 hm;obtain⟨o1,ho1⟩:=Option.ne_none_iff_exists'.1 hn;obtain⟨o2,ho2⟩:=Option.ne_none_iff_exists'.1 hm;rw[hmu n (hlt n o1 ho1)] at e ln;rw[hmu m (hlt m o2 ho2)] at e lm;exact hS.inj n m hn hm ln lm e
  . simp only at hn
    by_cases e1:n=st.k
    . subst e1;omega
    . rw[eV _ _ _ e1];exact hE.old n (by omega)
  . by_cases e1:n=st.k
    . subst e1
      rw[bz];exact .inl ⟨⟨by omega,Nat.lt_succ_self _⟩,λ h=>by cases h⟩
    . have hn:=hne n e1 hn
      obtain⟨o1,ho1⟩:=Option.ne_none_iff_exists'.1 hn;rw[hmu n (hlt n o1 ho1)];rcases hE.names n hn with⟨b1,b2⟩|⟨b1,b2⟩
      . exact .inl ⟨⟨b1.1,by have:=b1.2;show n<st.k+1;omega⟩,b2⟩
      . refine .inr ⟨λ h=> ?_,b2⟩
        have:n<st.k:=hlt n o1 ho1;exact b1 ⟨h.1,this⟩
theorem SW.y2 {N k0:Nat}{st:St}{Q:Exit->St->Prop}{s:bP}(x ty i:Nat)(e sz:Nat){cs:List SV}(ht:lk st.hp x=some (.box ty cs))(hi:cs[i]? =some (.d .aL))(h:SW P N k0 s ⟨st.env,(x,.box ty (cs.set i (.gs st.k 0)))::(st.k,.arr e sz 0 [])::st.hp,st.k+1⟩ Q):SW P N k0 s st Q:=
 λ c hc rd hrf cq M0 w0 c0 a w fJ=>h c hc rd hrf cq M0 w0 c0 a w (fJ.y2 x ty i e sz ht hi)
mutual
theorem SV.jU {n len:Nat}{ds:List DV}{q:Nat->Bool}(hq:q n=false):∀ (s:SV),s.ok q=true->s.iJ n len ds=s
 | .gs m l,h=>by
  simp only[SV.iJ];rw[if_neg];intro e;subst e;simp only[SV.ok] at h;rw[hq] at h;cases h
 | .agg cs,h=>by simp only[SV.iJ];rw[SV.iK hq cs (by simpa only[SV.ok] using h)]
 | .dL cs,h=>by simp only[SV.iJ];rw[SV.iK hq cs (by simpa only[SV.ok] using h)]
 | .d _,_=>rfl
 | .ptr _ _,_=>rfl
 | .vp _ _,_=>rfl
 | .bs _ _ _,_=>rfl
 | .mp _,_=>rfl
 | .it _,_=>rfl
 | .fn _ _ _,_=>rfl
 | .yl _,_=>rfl
 | .any,_=>rfl
theorem SV.iK {n len:Nat}{ds:List DV}{q:Nat->Bool}(hq:q n=false):∀ (s:List SV),SV.ax q s=true->SV.j4 n len ds s=s
 | [],_=>rfl
 | c::cs,h=>by
  simp only[SV.ax,Bool.and_eq_true] at h;simp only[SV.j4];rw[SV.jU hq c h.1,SV.iK hq cs h.2]
end
theorem vN {n len:Nat}{ds:List DV}{q:Nat->Bool}(hq:q n=false){es:List (Nat×SV×SV)}(h:(es.all λ e=>e.2.1.ok q && e.2.2.ok q)=true):es.map (λ e=>(e.1,e.2.1,e.2.2.iJ n len ds))=es:=by
 conv=>rhs;rw[<- List.map_id es]
 refine List.map_congr_left λ e he=> ?_
 have:=List.all_eq_true.1 h e he;simp only[Bool.and_eq_true] at this;rw[SV.jU hq _ this.2];rfl
section
variable {N k0:Nat} {Q:Exit->St->Prop}
end
end
section
variable {P:Program}
theorem gA.plain {p p':Nat->Prop}{μ bh:Nat->Nm}{M M':Mem}:∀ (r:List (Nat×SV×SV)) (es:List MapEntry),(∀ e,e∈r->SV.Plain e.2.1/\SV.Plain e.2.2)->gA p μ M r es->gA p' bh M' r es
 | [],es,_,h=>h
 | (b,k,v)::r,es,hp,⟨e,es',h1,h2,h3,h4,h5⟩=>
  ⟨e,es',h1,h2,(hp _ (List.mem_cons_self ..)).1 _ _ _ _ _ _ _ h3,(hp _ (List.mem_cons_self ..)).2 _ _ _ _ _ _ _ h4,gA.plain r es' (λ e he=>hp e (List.mem_cons_of_mem _ he)) h5⟩
theorem SC.F3 {f:FuncId}{k nk m len sz:Nat}{t:TypeId}{as:List SV}{ds:List DV}{es:List (Nat×SV×SV)}{c:Nat}(h:aH P f (.d (.sl len ds)::as) [] k nk (.mp k) [(k,.map es c)])(hnk:0<nk)
  (hv:∀ e,e∈es->SV.Plain e.2.1/\SV.Plain e.2.2) (ha:∀ c,c∈as->SV.Plain c) (hl:ds.length=len*sz) (hmk:m<k):
  aH P f (.gs m len::as) [(m,.arr t sz len (ds.map .d))] k nk (.mp k) [(k,.map es c),(m,.arr t sz len (ds.map .d))]:=by
 refine⟨by simpa using h.1,λ p μ M w vals hp hr hS=> ?_⟩;obtain⟨hpm,bt,hnone⟩:=hS.obs m (.arr t sz len (ds.map .d)) (by simp[af])
 let M':Mem:=λ b o=>if (μ m).live=true/\b=(μ m).blk then w.cell? ⟨b,o,none⟩ else M b o
 have hMM:Mem.le M M':=λ b o x hx=>by
  show(if (μ m).live=true/\b=(μ m).blk then w.cell? ⟨b,o,none⟩ else M b o)=some x
  split
  .exact hS.mem b o x hx
  .exact hx
 have hr':aS (λ _=>False) μ M' (.d (.sl len ds)::as) vals.toList:=by
  obtain⟨u,us,e,h1,h2⟩:=aS.aD.1 hr;rw[e];refine aS.aD.2 ⟨u,us,rfl,Rp.cB.2 ?_,SV.BO ha h2⟩;have h3:=h1.rep;simp only[cW] at h3;simp only[bZ] at bt;simp only[bQ];rcases h3 with⟨hlv,rfl⟩|⟨hlv,rfl,A,rfl⟩
  .rcases bt with⟨h4,_⟩|⟨_,vs,hb,_,h5,_,h6,hcs⟩
   .rw[hlv] at h4;cases h4
   refine⟨_,_,rfl,h5,λ hz=> ?_,λ hz=>⟨(μ m).blk,0,rfl,C6 0 ds λ i x hx=> ?_⟩⟩
   .subst hz;simpa using hl
   .obtain⟨u,hu,hd⟩:=hcs.get (i:=i) (c:= .d x) (by simp[hx])
    refine⟨u,?_,bQ.mono hMM x u (Rp.cB.1 hd)⟩;show(if (μ m).live=true/\(μ m).blk=(μ m).blk then w.cell? ⟨(μ m).blk,0+i,none⟩ else M (μ m).blk (0+i))=some u;rw[if_pos ⟨hlv,rfl⟩,cell_of hb];rw[List.getElem?_take] at hu
    split at hu
    .simpa using hu
    .cases hu
  .exact⟨A,0,rfl,Nat.le_refl _,λ _=>by simpa using hl,λ hz=>absurd hz (Nat.lt_irrefl 0)⟩
 have sJ:bR (λ _=>False) μ M' (lk []) w:=by
  refine⟨⟨λ b o x hx=> ?_,hS.mem.kP.le hMM⟩,λ n ob hn=>by simp[bA] at hn,λ n _ hn=>by simp[bA] at hn⟩;have hx:(if (μ m).live=true/\b=(μ m).blk then w.cell? ⟨b,o,none⟩ else M b o)=some x:=hx
  split at hx
  .exact hx
  .exact hS.mem b o x hx
 refine(h.2 (λ _=>False) μ M' w vals (λ _ _ h=>h) hr' sJ).mono ?_;rintro e w' ⟨r,F',bh,M'',u,rfl,⟨rfl,rfl⟩,hru,hS2,hE⟩;have hfr:∀ b,b<w.heap.size->w'.heap[b]? =w.heap[b]? :=λ b hb=>(hE.frame b hb (λ n hn=>by simp[bA] at hn)).1
 have hnew:k<=k/\k<k+nk:=⟨Nat.le_refl _,by omega⟩;have hmm:bh m=μ m:=hE.old m (λ hn=>by omega);obtain⟨_,kob,knone⟩:=hS2.obs k (.map es c) (by simp[af]);simp only[bZ] at kob;obtain⟨klv,dJ,kh,kes⟩:=kob;have kfresh:w.heap.size<=(bh k).blk:=by
  rcases hE.names k (by simp[af]) with⟨_,h1⟩|⟨h1,_⟩
  .rcases h1 klv with h2|⟨n,hn,_⟩
   .exact h2
   .simp[bA] at hn
  .exact absurd hnew h1
 have hlk:∀ n ob,lk [(k,Ob.map es c),(m,.arr t sz len (ds.map .d))] n=some ob->(n=k/\ob= .map es c)\/(n=m/\ob= .arr t sz len (ds.map .d)):=λ n ob hn=>by
  rw[af] at hn
  split at hn
  .rename_i e;exact .inl ⟨e,(Option.some.inj hn).symm⟩
  .rw[af] at hn
   split at hn
   .rename_i e;exact .inr ⟨e,(Option.some.inj hn).symm⟩
   .simp[bA] at hn
 have hne:∀ n,lk [(k,Ob.map es c),(m,.arr t sz len (ds.map .d))] n≠none->n=k\/n=m:=λ n hn=>by
  obtain⟨ob,ho⟩:=Option.ne_none_iff_exists'.1 hn;rcases hlk n ob ho with⟨h,_⟩|⟨h,_⟩
  .exact .inl h
  .exact .inr h
 have hmlt:(μ m).live=true->(μ m).blk<w.heap.size:=λ hlv=>bt.lt hlv
 have hMM2:Mem.le M M'':=λ b o x hx=>hE.mem b o x (hMM b o x hx)
 refine⟨.mp k,[(k,.map es c),(m,.arr t sz len (ds.map .d))],bh,M,u,rfl,⟨rfl,rfl⟩,λ ν ig=> ?_,⟨⟨λ b o x hx=>hS2.mem b o x (hMM2 b o x hx),hS.mem.kP⟩,λ n ob hn=> ?_,λ a b ha hb la lb e=> ?_⟩,⟨hE.old,Mem.le_refl M,λ b hb _=>⟨hfr b hb,λ _=>rfl⟩,hE.size,λ n hn=> ?_,hE.os,hE.tape,hE.output⟩⟩
 .have:=hru ν λ n hn=>ig n (hn.elim (λ h=>h.elim) .inr)
  simpa only[cW] using this
 .rcases hlk n ob hn with⟨rfl,rfl⟩|⟨rfl,rfl⟩
  .refine⟨.inr hnew,?_,λ hlv o=> ?_⟩
   .simp only[bZ]
    exact⟨klv,dJ,kh,gA.plain _ _ hv kes⟩
   .cases hx:M (bh n).blk o with
    | none=>rfl
    | some x=>
     have:=knone hlv o;rw[hMM2 _ _ _ hx] at this;cases this
  .rw[hmm]
   exact⟨.inl hpm,bt.more (λ n h=> .inl h) (λ n hn=>hE.old n λ hnw=>hp n hnw hn) (Mem.le_refl M) (λ hlv=>hfr _ (hmlt hlv)),hnone⟩
 .rcases hne a ha with rfl|rfl<;>rcases hne b hb with rfl|rfl
  .rfl
  .rw[hmm] at lb e
   have:=hmlt lb;omega
  .rw[hmm] at la e
   have:=hmlt la;omega
  .rfl
 .rcases hne n hn with rfl|rfl
  .exact .inl ⟨hnew,λ _=> .inl kfresh⟩
  .exact .inr ⟨λ hnw=>by omega,by simp[af]⟩
end
end Go.Sl
namespace Go.Sl
def eU (v:ay)(o:ag):ay:=if o.dot.r<8 then v.set o.dot.r (max (v.get o.dot.r) o.dot.n) else v
def bu (l:List ag):ay:=l.foldl eU ay.zero
theorem D2 (v:ay)(o:ag){r:Nat}(hr:r<8):v.get r<=(eU v o).get r:=by
 unfold eU
 split
 .rw[ay.pV _ _ _ hr];split
  .rename_i e;rw[<- e];omega
  .omega
 .omega
theorem BQ (v:ay)(o:ag)(hr:o.dot.r<8):o.dot.n<=(eU v o).get o.dot.r:=by
 unfold eU;rw[if_pos hr,ay.pV _ _ _ hr,if_pos rfl];omega
theorem D3 (v:ay)(o:ag){r:Nat}(hr:r<8):(eU v o).get r=v.get r\/(o.dot=⟨r,(eU v o).get r⟩):=by
 unfold eU
 split
 .rw[ay.pV _ _ _ hr];split
  .rename_i e
   rcases Nat.le_total o.dot.n (v.get o.dot.r) with h|h
   .left;rw[<- e] at h ⊢;omega
   .right
    rw[Nat.max_eq_right h];cases hd:o.dot;rw[hd] at e;rw[e]
  .exact .inl rfl
 .exact .inl rfl
theorem Av:∀ (l:List ag) (v:ay) {r:Nat},r<8->v.get r<=(l.foldl eU v).get r
 | [],v,r,_=>Nat.le_refl _
 | o::l,v,r,hr=>Nat.le_trans (D2 v o hr) (Av l (eU v o) hr)
theorem x_:∀ (l:List ag) (v:ay) {o:ag},o∈l->o.dot.r<8->o.dot.n<=(l.foldl eU v).get o.dot.r
 | x::l,v,o,ho,hr=>by
  rcases List.mem_cons.1 ho with rfl|ho
  .exact Nat.le_trans (BQ v o hr) (Av l _ hr)
  .exact x_ l (eU v x) ho hr
theorem Aw:∀ (l:List ag) (v:ay) {r:Nat},r<8->(l.foldl eU v).get r=v.get r\/∃ o,o∈l/\o.dot=⟨r,(l.foldl eU v).get r⟩
 | [],v,r,_=> .inl rfl
 | o ::l,v,r,hr=>by
  rcases Aw l (eU v o) hr with h|⟨x,hx,h⟩
  .rcases D3 v o hr with h2|h2
   .left
    show(l.foldl eU (eU v o)).get r=_;rw[h,h2]
   .right
    refine⟨o,by simp,?_⟩;show o.dot=⟨r,(l.foldl eU (eU v o)).get r⟩;rw[h];exact h2
  .exact .inr ⟨x,List.mem_cons_of_mem _ hx,h⟩
theorem pZ {l:List ag}{o:ag}(ho:o∈l)(hr:o.dot.r<8):o.dot.n<=(bu l).get o.dot.r:=x_ l _ ho hr
theorem p0 (l:List ag){r:Nat}(hr:r<8):(bu l).get r=0\/∃ o,o∈l/\o.dot=⟨r,(bu l).get r⟩:=by
 rcases Aw l ay.zero hr with h|h
 .left;unfold bu;rw[h,ay.FK]
 .exact .inr h
theorem tZ (l:List ag)(x:ag):bu (l++[x])=eU (bu l) x:=by unfold bu;rw[List.foldl_append];rfl
theorem BR {l m:List ag}(h:∀ o,o∈l↔o∈m):bu l=bu m:=ay.ext' λ r hr=>by
 have key:∀ {l m:List ag},(∀ o,o∈l↔o∈m)->(bu l).get r<=(bu m).get r:=λ {l m} h=>by
  rcases p0 l hr with h0|⟨o,ho,e⟩
  .omega
  .have e1:o.dot.r=r:=by rw[e]
   have e2:o.dot.n=(bu l).get r:=by rw[e]
   have:=pZ ((h o).1 ho) (by omega);rw[e1,e2] at this;exact this
 exact Nat.le_antisymm (key h) (key λ o=>(h o).symm)
end Go.Sl
