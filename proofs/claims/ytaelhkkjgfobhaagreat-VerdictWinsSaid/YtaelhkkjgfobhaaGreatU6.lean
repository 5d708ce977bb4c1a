/-
 A box's cell that holds no map: a map of one's own that is nil.
-/
import Derived.Test.YtaelhkkjgfobhaaGreatU4
set_option linter.unusedVariables false
set_option linter.unusedSimpArgs false
set_option linter.unusedSectionVars false
namespace Go.Sl
open Go.RowKit
def qP (bs:List Nat)(ts:List (Bool×List Nat)):Bool:=
 yg ts.length λ i j=>i == j || (ts.getD i (true,[])).1 || gC bs i j || gC bs j i || !((ts.getD i (true,[])).2.any λ n=>(ts.getD j (true,[])).2.contains n)
theorem cu {f:Bool}{bs:List Nat}{ts:List (Bool×List Nat)}(h:(!f || qP bs ts)=true):(!f || mS bs ts)=true:=by
 rw [<- h]
 congr 1
 unfold mS qP
 congr 1
 funext i j
 generalize (i == j)=a;generalize (ts.getD i (true,[])).1=b;generalize gC bs i j=c;generalize gC bs j i=d;generalize List.any _ _=e;cases a <;> cases b <;> cases c <;> cases d <;> cases e <;> rfl
section
variable {P:Program} {N k0:Nat} {st:St} {Q:Exit->St->Prop}
end
end Go.Sl
namespace Go.Sl
section
section
variable {P:Program} {N k0:Nat} {st zO:St} {Q:Exit->St->Prop} {c_:List SI} {bs:List Nat} {draw:Bool} {Φ C1 C2 C3 C4:Prop}
abbrev RF (P:Program)(L:List Nat)(c_:List SI)(bs:List Nat)(draw:Bool)(st zO:St):Prop:=RW P c_ st λ st' ts=>(!draw || mS bs ts)=true/\ak L st' λ s=>s=zO
theorem RF.sw {L:List Nat}(hm:P.follows .mixedOrders=true)(hr:RF P L c_ bs draw st zO)(h:Q .normal zO):SW P N k0 (.fG c_ bs draw) st Q:=by
 refine SW.bS L hm ?_;obtain ⟨dK,st',ob,ts,h1,h2,h3,h4⟩:=hr;refine ⟨dK,st',ob,ts,h1,h2,h3,?_⟩;unfold ak at h4 ⊢;rw [h4];exact h
theorem SW.g0 (L:List Nat)(hm:P.follows .mixedOrders=true)(φ:Φ)(h:Q .normal zO)
  (hr:Φ->RF P L c_ bs draw st zO:=by
   intro φ;(repeat (first | refine RW.ro φ (h:= ?_) | refine RW.skip (h:= ?_) | refine RW.op φ (h:= ?_) | refine RW.dA φ (h:= ?_) | refine RW.a_ (h:= ?_)));exact RW.nil ⟨cu (by kernel_rfl),ak.mk (h:=rfl)⟩):SW P N k0 (.fG c_ bs draw) st Q:=RF.sw hm (hr φ) h
theorem SW.g1 (L:List Nat)(hm:P.follows .mixedOrders=true)(φ:Φ)(c1:C1)(h:Q .normal zO)
  (hr:Φ->C1->RF P L c_ bs draw st zO:=by
   intro φ c1;(repeat (first | refine RW.ro φ (h:= ?_) | refine RW.skip (h:= ?_) | refine RW.op φ (h:= ?_) | refine RW.dA φ (h:= ?_) | refine RW.a_ (h:= ?_) | (refine RW.bg (h:= ?_);(first | refine ai.mk φ (hc:=c1) (h:= ?_) | refine ai.mk φ (hc:=c1 _) (h:= ?_) | refine ai.mk φ (hs:=c1.1) (hc:=c1.2) (h:= ?_)))));exact RW.nil ⟨cu (by kernel_rfl),ak.mk (h:=rfl)⟩):SW P N k0 (.fG c_ bs draw) st Q:=RF.sw hm (hr φ c1) h
theorem SW.g2 (L:List Nat)(hm:P.follows .mixedOrders=true)(φ:Φ)(c1:C1)(c2:C2)(h:Q .normal zO)
  (hr:Φ->C1->C2->RF P L c_ bs draw st zO:=by
   intro φ c1 c2;(repeat (first | refine RW.ro φ (h:= ?_) | refine RW.skip (h:= ?_) | refine RW.op φ (h:= ?_) | refine RW.dA φ (h:= ?_) | refine RW.a_ (h:= ?_) | (refine RW.bg (h:= ?_);(first | refine ai.mk φ (hc:=c1) (h:= ?_) | refine ai.mk φ (hc:=c1 _) (h:= ?_) | refine ai.mk φ (hs:=c1.1) (hc:=c1.2) (h:= ?_) | refine ai.mk φ (hc:=c2) (h:= ?_) | refine ai.mk φ (hc:=c2 _) (h:= ?_) | refine ai.mk φ (hs:=c2.1) (hc:=c2.2) (h:= ?_)))));exact RW.nil ⟨cu (by kernel_rfl),ak.mk (h:=rfl)⟩):SW P N k0 (.fG c_ bs draw) st Q:=RF.sw hm (hr φ c1 c2) h
theorem SW.g4 (L:List Nat)(hm:P.follows .mixedOrders=true)(φ:Φ)(c1:C1)(c2:C2)(c3:C3)(c4:C4)(h:Q .normal zO)
  (hr:Φ->C1->C2->C3->C4->RF P L c_ bs draw st zO:=by
   intro φ c1 c2 c3 c4;(repeat (first | refine RW.ro φ (h:= ?_) | refine RW.skip (h:= ?_) | refine RW.op φ (h:= ?_) | refine RW.dA φ (h:= ?_) | refine RW.a_ (h:= ?_) | (refine RW.bg (h:= ?_);(first | refine ai.mk φ (hc:=c1) (h:= ?_) | refine ai.mk φ (hc:=c1 _) (h:= ?_) | refine ai.mk φ (hs:=c1.1) (hc:=c1.2) (h:= ?_) | refine ai.mk φ (hc:=c2) (h:= ?_) | refine ai.mk φ (hc:=c2 _) (h:= ?_) | refine ai.mk φ (hs:=c2.1) (hc:=c2.2) (h:= ?_) | refine ai.mk φ (hc:=c3) (h:= ?_) | refine ai.mk φ (hc:=c3 _) (h:= ?_) | refine ai.mk φ (hs:=c3.1) (hc:=c3.2) (h:= ?_) | refine ai.mk φ (hc:=c4) (h:= ?_) | refine ai.mk φ (hc:=c4 _) (h:= ?_) | refine ai.mk φ (hs:=c4.1) (hc:=c4.2) (h:= ?_)))));exact RW.nil ⟨cu (by kernel_rfl),ak.mk (h:=rfl)⟩):SW P N k0 (.fG c_ bs draw) st Q:=RF.sw hm (hr φ c1 c2 c3 c4) h
end
end
section
section
variable {P:Program} {N k0:Nat} {st zO:St} {Q:Exit->St->Prop} {c_:List SI} {bs:List Nat} {draw:Bool} {Φ:Prop}
variable {r r':List SI} {K K':St->List (Bool×List Nat)->Prop} {C:Prop} {F:List (Bool×List Nat)->Prop} {q:St->Prop} {L:List Nat}
end
end
section
section
variable {P:Program} {N k0:Nat} {st zO:St} {Q:Exit->St->Prop} {c_:List SI} {bs:List Nat} {draw:Bool} {Φ C X:Prop}
theorem SW.gK (L:List Nat)(hm:P.follows .mixedOrders=true)(φ:Φ)(κ:X)(cs:C)(h:Q .normal zO)
  (hr:Φ->X->C->RF P L c_ bs draw st zO:=by
   intro φ κ cs;(repeat (first | refine RW.ro φ (h:= ?_) | refine RW.skip (h:= ?_) | refine RW.op φ (h:= ?_) | refine RW.dA φ (h:= ?_) | refine RW.a_ (h:= ?_) | (refine RW.bg (h:= ?_);(first | refine ai.mk φ (hc:=cs.1) (h:= ?_) | refine ai.mk φ (hc:=cs.1 _) (h:= ?_) | refine ai.mk φ (hs:=cs.1.1) (hc:=cs.1.2) (h:= ?_) | refine ai.mk φ (hc:=cs.2.1) (h:= ?_) | refine ai.mk φ (hc:=cs.2.1 _) (h:= ?_) | refine ai.mk φ (hs:=cs.2.1.1) (hc:=cs.2.1.2) (h:= ?_) | refine ai.mk φ (hc:=cs.2.2.1) (h:= ?_) | refine ai.mk φ (hc:=cs.2.2.1 _) (h:= ?_) | refine ai.mk φ (hs:=cs.2.2.1.1) (hc:=cs.2.2.1.2) (h:= ?_) | refine ai.mk φ (hc:=cs.2.2.2.1) (h:= ?_) | refine ai.mk φ (hc:=cs.2.2.2.1 _) (h:= ?_) | refine ai.mk φ (hs:=cs.2.2.2.1.1) (hc:=cs.2.2.2.1.2) (h:= ?_)))));exact RW.nil ⟨cu (by simp [qP,yg,gC,cW,List.range,List.range.loop,κ] <;> (first | decide | (repeat (first | assumption | refine ⟨?_,?_⟩ | exact .inl (by decide) | exact .inl (.inr (by decide)) | exact .inl (.inl (by decide)) | refine .inr ?_)))),ak.mk (h:=rfl)⟩):SW P N k0 (.fG c_ bs draw) st Q:=RF.sw hm (hr φ κ cs) h
end
end
end Go.Sl
namespace Go.Sl
open Go.RowKit
section
variable {P:Program}
def SV.Plain (v:SV):Prop:=∀ (p p':Nat->Prop) (μ aY:Nat->Nm) (M M':Mem) (u:Value),Rp p μ M v u->Rp p' aY M' v u
theorem SV.B7 (n:Nat):SV.Plain (u32 n):=λ p p' μ aY M M' u h=>by
 unfold u32 at h ⊢;rw [Rp.aP] at h ⊢;exact h
theorem SV.Ak {p p':Nat->Prop}{μ aY:Nat->Nm}{M M':Mem}:∀ {cs:List SV} {l:List Value},(∀ c,c∈cs->SV.Plain c)->aS p μ M cs l->aS p' aY M' cs l
 | [],l,_,hr=>aS.aM.2 (aS.aM.1 hr)
 | c::cs,l,h,hr=>by
  obtain ⟨u,us,rfl,h1,h2⟩:=aS.aD.1 hr;exact aS.aD.2 ⟨u,us,rfl,h c (by simp) p p' μ aY M M' u h1,SV.Ak (λ c hc=>h c (by simp [hc])) h2⟩
theorem SV.B8 {cs:List SV}(h:∀ c,c∈cs->SV.Plain c):SV.Plain (.agg cs):=λ p p' μ aY M M' u hu=>by
 obtain ⟨vs,rfl,hr⟩:=Rp.ew.1 hu;exact Rp.ew.2 ⟨vs,rfl,SV.Ak h hr⟩
theorem Bg {M:Mem}{b:Nat}:∀ (o:Nat) (ds:List DV),(∀ i x,ds[i]? =some x->∃ u,M b (o+i)=some u/\bK M x u)->de M b o ds
 | _,[],_=>by simp [de]
 | o,x::ds,h=>by
  simp only [de];refine ⟨by simpa using h 0 x rfl,Bg (o+1) ds λ i y hy=> ?_⟩;have:=h (i+1) y (by simpa using hy)
  rwa [show o+(i+1)=o+1+i by omega] at this
end
section
theorem aI {h:Hp}(hn:(h.map (·.1)).Nodup):∀ x,x∈h->lk h x.1=some x.2:=by
 induction h with
 | nil=>intro x hx;cases hx
 | cons y h ih=>
  intro x hx;rw [List.map_cons,List.nodup_cons] at hn;obtain ⟨a,o⟩:=y;rw [aa];rcases List.mem_cons.1 hx with rfl | hx
  .simp
  .have:x.1≠a:=λ e=>hn.1 (by rw [<- e];exact List.mem_map.2 ⟨x,hx,rfl⟩)
   rw [if_neg this];exact ih hn.2 x hx
def s8 (F:Hp)(x:Nat×Ob):Nat×Ob:=match lk F x.1 with
 | some o=>(x.1,o)
 | none=>x
theorem yI:∀ {h:Hp} {n:Nat} {o:Ob},(h.map (·.1)).Nodup->n∈h.map (·.1)->gD h n o=h.map λ x=>if x.1=n then (n,o) else x
 | [],n,o,_,hm=>by cases hm
 | (m,o')::h,n,o,hn,hm=>by
  rw [List.map_cons,List.nodup_cons] at hn;simp only [gD,List.map_cons]
  by_cases e:m=n
  .subst e
   simp only [if_true]
   congr 1
   symm
   conv=>rhs;rw [<- List.map_id h]
   refine List.map_congr_left λ x hx=> ?_
   rw [if_neg λ e=>hn.1 (by rw [<- e];exact List.mem_map.2 ⟨x,hx,rfl⟩)];rfl
  .rw [if_neg e,if_neg e,yI hn.2 ((List.mem_cons.1 hm).resolve_left λ h=>e h.symm)]
theorem mq {h:Hp}{n:Nat}(hm:n∈h.map (·.1)):∃ o,lk h n=some o:=by
 induction h with
 | nil=>cases hm
 | cons y h ih=>
  obtain ⟨m,o⟩:=y;rw [aa]
  by_cases e:n=m
  .exact ⟨o,by rw [if_pos e]⟩
  .rw [if_neg e]
   exact ih ((List.mem_cons.1 hm).resolve_left e)
theorem uC (F:Hp)(x:Nat×Ob):(s8 F x).1=x.1:=by unfold s8;split <;> rfl
theorem v8 {h:Hp}(hn:(h.map (·.1)).Nodup):∀ {F:Hp},(F.map (·.1)).Nodup->(∀ n,n∈F.map (·.1)->n∈h.map (·.1))->cR h F=h.map (s8 F)
 | [],_,_=>by
  simp only [cR]
  conv=>lhs;rw [<- List.map_id h]
  rfl
 | (n,o)::F,hF,hsub=>by
  rw [List.map_cons,List.nodup_cons] at hF;have ih:=v8 hn hF.2 λ m hm=>hsub m (List.mem_cons_of_mem _ hm)
  have hnames:(h.map (s8 F)).map (·.1)=h.map (·.1):=by rw [List.map_map];exact List.map_congr_left λ x _=>uC F x
  have hmem:n∈(h.map (s8 F)).map (·.1):=by rw [hnames];exact hsub n (by simp)
  simp only [cR];rw [ih];unfold f_;obtain ⟨o1,ho1⟩:=mq hmem;rw [ho1];dsimp only;rw [yI (by rw [hnames];exact hn) hmem,List.map_map];refine List.map_congr_left λ x _=> ?_
  show (if (s8 F x).1=n then (n,o) else s8 F x)=s8 ((n,o)::F) x;rw [uC];unfold s8;rw [aa]
  by_cases e:x.1=n
  .simp [e]
  .simp [e]
theorem yJ {F:Hp}:∀ {A B:Hp},A.map (·.1)=B.map (·.1)->(∀ x,x∈B->lk F x.1=some x.2)->A.map (s8 F)=B
 | [],[],_,_=>rfl
 | [],_::_,h,_=>by simp at h
 | _::_,[],h,_=>by simp at h
 | a::A,b::B,h,hl=>by
  simp only [List.map_cons,List.cons.injEq] at h ⊢;refine ⟨?_,yJ h.2 λ x hx=>hl x (List.mem_cons_of_mem _ hx)⟩;have:=hl b (by simp);unfold s8;rw [h.1,this]
theorem nL {h F':Hp}:∀ {F:Hp},(∀ n,n∈F.map (·.1)->(lk F' n).isSome=true)->cU h F' F=h
 | [],_=>rfl
 | (n,o)::F,hs=>by
  simp only [cU];rw [if_pos (hs n (by simp)),nL λ m hm=>hs m (List.mem_cons_of_mem _ hm)]
theorem oz {pre F F':Hp}(he:F.map (·.1)=F'.map (·.1))(hn:((pre++F).map (·.1)).Nodup):cR (cU (pre++F) F' F) F'=pre++F':=by
 have hn2:(F'.map (·.1)).Nodup:=by rw [<- he];rw [List.map_append,List.nodup_append] at hn;exact hn.2.1
 rw [nL λ n h=>by rw [he] at h;obtain ⟨o,ho⟩:=mq h;rw [ho];rfl];rw [v8 hn hn2 λ n h=>by rw [List.map_append,List.mem_append,he];exact .inr h,List.map_append,yJ he (aI hn2)]
 congr 1
 conv=>rhs;rw [<- List.map_id pre]
 refine List.map_congr_left λ x hx=> ?_
 have : lk F' x.1=none:=by
  cases hh:lk F' x.1 with
  | none=>rfl
  | some o=>
   rw [List.map_append,List.nodup_append] at hn;have h1:x.1∈F'.map (·.1):=by
    have:∀ {h:Hp} {n:Nat} {o:Ob},lk h n=some o->n∈h.map (·.1):=by
     intro h
     induction h with
     | nil=>intro n o h;simp [bt] at h
     | cons y h ih=>
      intro n o hl;rw [aa] at hl
      split at hl
      .rename_i e;subst e;simp
      .exact List.mem_cons_of_mem _ (ih hl)
    exact this hh
   exact absurd rfl (hn.2.2 x.1 (List.mem_map.2 ⟨x,hx,rfl⟩) x.1 (by rw [he];exact h1))
 unfold s8;rw [this];rfl
theorem rW {n:Nat}{a b:Ob}{F F':Hp}(he:F.map (·.1)=F'.map (·.1))(hn:(((n,a)::F).map (·.1)).Nodup):cR (cU ((n,a)::F) ((n,b)::F') F) F'=(n,a)::F':=by
 have h1:=oz (pre:=[(n,a)]) he hn;rw [nL λ m hm=>by rw [he] at hm;obtain ⟨o,ho⟩:=mq hm;rw [ho];rfl] at h1;rw [nL λ m hm=>by
  rw [he] at hm;obtain ⟨o,ho⟩:=mq hm;rw [aa]
  split
  .rfl
  .rw [ho];rfl]
 exact h1
theorem iZ (F G:Hp)(m:Nat):lk (F++G) m=(lk F m).or (lk G m):=by
 unfold lk;exact List.lookup_append ..
theorem kV {F H:Hp}{n:Nat}{o:Ob}(hn:lk F n=none)(h:HSub F H):HSub F ((n,o)::H):=λ m ob hm=>by
 rw [aa,if_neg λ e=>by rw [e,hn] at hm;cases hm];exact h m ob hm
theorem mu {h:Hp}{n:Nat}{o:Ob}(hl:lk h n=some o):n∈h.map (·.1):=by
 induction h with
 | nil=>simp [bt] at hl
 | cons y h ih=>
  rw [aa] at hl
  split at hl
  .rename_i e;subst e;simp
  .exact List.mem_cons_of_mem _ (ih hl)
theorem jy {h:Hp}{n:Nat}(hn:n∉h.map (·.1)):lk h n=none:=by
 cases hh:lk h n with
 | none=>rfl
 | some o=>exact absurd (mu hh) hn
theorem eu {h:Hp}{n:Nat}(hn:lk h n=none):n∉h.map (·.1):=λ hm=>by
 obtain ⟨o,ho⟩:=mq hm;rw [hn] at ho;cases ho
theorem qQ {H:Hp}{n:Nat}{o:Ob}(hn:lk H n=none)(h:(H.map (·.1)).Nodup):(((n,o)::H).map (·.1)).Nodup:=by
 rw [List.map_cons,List.nodup_cons];exact ⟨eu hn,h⟩
theorem ax {H:Hp}{n:Nat}{o:Ob}{q:Nat->Bool}(h1:q n=true)(h2:o.ok q=true)(h:H.ok q=true):Hp.ok q ((n,o)::H)=true:=by
 simp only [Hp.ok,List.all_cons,Bool.and_eq_true] at h ⊢;exact ⟨⟨h1,h2⟩,h⟩
theorem bU.trim {p:Nat->Prop}{μ:Nat->Nm}{M:Mem}{w:World}{m:Nm}{e sz len:Nat}{cs:List SV}(h:bU p μ M w m (.arr e sz len cs)){n:Nat}(hn:n<=len):bU p μ M w m (.arr e sz n (cs.take (n*sz))):=by
 rcases h with ⟨h1,h2,h3⟩ | ⟨h0,vs,hb,h1,h2,h3,h4,h5⟩
 .subst h2;subst h3
  exact .inl ⟨h1,by omega,by simp⟩
 .have hle:n*sz<=len*sz:=Nat.mul_le_mul_right sz hn
  refine .inr ⟨h0,vs,hb,?_,by omega,h3,h4,?_⟩
  .rw [List.length_take,h1,Nat.min_eq_left hle]
  .have:=h5.take (n*sz)
   rwa [List.take_take,Nat.min_eq_left hle] at this
theorem SW.trim {P:Program}{N k0:Nat}{s:bI}{st:St}{Q:Exit->St->Prop}{n e sz len:Nat}{cs:List SV}(i:Nat)(hl:lk st.hp n=some (.arr e sz len cs))(hi:i<=len)
  (h:SW P N k0 s ⟨st.env,f_ st.hp n (.arr e sz i (cs.take (i*sz))),st.k⟩ Q):SW P N k0 s st Q:=by
 refine λ cc hc rd hrf bY M0 w0 c0 a w fA=>h cc hc rd hrf bY M0 w0 c0 a w ?_
 obtain ⟨lp,hdf,hsz,μ,M,gy,hS,hE⟩:=fA;refine ⟨lp,hdf,hsz,μ,M,gy,⟨hS.mem,λ m ob hm=> ?_,λ m m' h1 h2=>hS.inj m m' ?_ ?_⟩,?_⟩
 .rw [qE] at hm
  split at hm
  .rename_i e;subst e
   injection hm with hm;subst hm;obtain ⟨a1,a2,a3⟩:=hS.obs _ _ hl;exact ⟨a1,a2.trim hi,a3⟩
  .exact hS.obs m ob hm
 .rw [qE] at h1
  split at h1
  .rename_i e;subst e;rw [hl];simp
  .exact h1
 .rw [qE] at h2
  split at h2
  .rename_i e;subst e;rw [hl];simp
  .exact h2
 .exact hE.xY λ m hm=>by
   rw [qE] at hm
   split at hm
   .rename_i e;subst e;rw [hl];simp
   .exact hm
theorem Ed {P:Program}{op:Op}{neg:Bool}{kd:Nat}{x':X}(hc:cO P op=some (.jh neg kd x')):∃ b t x y t',op= .binOp b t x y t'/\isEq b=true/\dZ b=neg/\yc P t y=some kd/\cX x=some x':=by
 cases op <;> simp only [cO] at hc <;> try (cases hc;done)
 case binOp b t x y t'=>
  refine ⟨b,t,x,y,t',rfl,?_⟩
  by_cases hq:isEq b=true
  .rw [if_pos hq] at hc
   split at hc
   .repeat' (first | contradiction | (cases hc;done) | split at hc)
   .repeat' (first | contradiction | (cases hc;done) | split at hc)
   .repeat' (first | contradiction | (cases hc;done) | split at hc)
   .repeat' (first | contradiction | (cases hc;done) | split at hc)
   .split at hc <;> try (cases hc;done)
    rename_i h1 h2;injection hc with hc;injection hc with e1 e2 e3;subst e2;subst e3;exact ⟨hq,e1,h1,h2⟩
  .rw [if_neg hq] at hc
   repeat' (first | contradiction | (cases hc;done) | split at hc)
 all_goals (repeat' (first | contradiction | (cases hc;done) | (obtain ⟨_,_,hh⟩:=Option.map_eq_some_iff.1 hc;cases hh;done) | split at hc))
theorem B9 {P:Program}{o:Oper}{E:Nat->Option SV}{H:Nat->Option Ob}{k:Nat}{neg:Bool}{x':X}{n:Nat}{cs:List DV}(hc:cO P o.op=some (.jh neg 3 x'))(hx:ev E x'=some (.d (.sl n cs))):
  nH P o E H k 0 [] (λ v F'=>F'=[]/\(v= .d (.bool neg)\/(n=0/\v= .d (.bool !neg)))):=by
 obtain ⟨op,t,x,y,t',ho,hop,hneg,hy,hcx⟩:=Ed hc;subst hneg;refine ⟨aV,λ rd p μ M a w K QQ hnew hk hS hK=> ?_⟩;obtain ⟨A,c,e1,e2,e3,e4⟩:=(by simpa [bK] using Rp.b_.1 (hk.get (by simp [ho,Op.operands]) hcx hx):∃ A cp,a.eval x= .slice A n cp/\n<=cp/\(n=0->cs=[])/\(0<n->∃ b q,A=some ⟨b,q,none⟩/\de M b q cs));have hty:∃ e,P.underlying t=some (.slice e)/\a.eval y= .slice none 0 0:=by
  unfold yc at hy
  split at hy <;> try (cases hy;done)
  all_goals first
   | (injection hy with hy;cases hy;done)
   | exact ⟨_,by assumption,rfl⟩
 obtain ⟨el,hty,hyv⟩:=hty;have h0:∀ d,(Op.equalIn (d+1) t (a.eval x) (a.eval y)).run P w= .ok A.isNone w:=λ d=>by
  rw [e1,hyv];cases A <;> simp [Op.equalIn,run_underlying hty]
 have h1:=h0 9999;clear h0;have n5:eqGuard op t x y (a.eval x) (a.eval y)=Pure.pure ():=by rw [e1];simp [eqGuard_at_slice]
 have hb:(binOp op t (a.eval x) (a.eval y)).run P w= .ok (.bool (bif dZ op then !A.isNone else A.isNone)) w:=by
  rw [e1,hyv] at h1 ⊢;rcases mO hop with rfl | rfl <;> simp [binOp,Op.equal,Op.maxDepth,h1,dZ]
 have hex:(execOp a.eval o).run P w= .ok (.value (.bool (bif dZ op then !A.isNone else A.isNone))) w:=by
  simp only [execOp,ho,Sem.run_bind,n5,Sem.run_pure,Result.andThen_ok,hb]
 refine ij hex (hK (.d (.bool (bif dZ op then !A.isNone else A.isNone))) [] _ μ M w ⟨rfl,?_⟩ (Rp.bA.2 rfl) (hS.more λ _ h=> .inl h) (Ev.refl _ _ _ _ _ λ n h=>by simp [bt] at h))
 by_cases hn:n=0
 .cases A <;> cases dZ op <;> simp [hn]
 .obtain ⟨b,q,rfl,_⟩:=e4 (by omega)
  left;cases dZ op <;> rfl
theorem bk.Mt {P:Program}{N k0:Nat}{st:St}{K:St->Prop}{si:SI}{r:List SI}{F:Hp}{nk:Nat}{Q:SV->Hp->Prop}(hg:si.g=none)(hq:∀ o:Oper,cO P o.op=some si.op->nH P o (λ t=>st.env.lookup t) (lk st.hp) st.k nk F Q)
  (hro:∀ v F',Q v F'->F'=F) (h:∀ v F',Q v F'->bk P N k0 r (lH st si ⟨v,F,F',nk,True⟩) K):bk P N k0 (si::r) st K:=by
 refine bk.cons λ ops o hc hN rd bY M0 w0 c0 a w fA i ho Q' KK D9=> ?_
 obtain ⟨g1,g2,g3⟩:=gE hc;have hgn:o.guard=none:=by
  rcases g3 with ⟨h,_⟩ | ⟨j,w,t,h,_,h'⟩
  .exact h
  .rw [hg] at h';cases h'
 unfold wpOpIn;simp only [ho,Region.wanted,hgn,if_true];exact (ic.step g2 (λ d hd=>hN d (by rw [g2];exact hd)) (hq o g1) (λ v F' hQ hr=>hro v F' hQ) fA λ v F' hQ a' w' hSt'=>D9 _ a' w' (h v F' hQ) hSt')
theorem SW.Mu {P:Program}{N k0:Nat}{st:St}{Q:Exit->St->Prop}{d s t n:Nat}{cs:List DV}{neg:Bool}{bs:List Nat}(hl:st.env.lookup s=some (.d (.sl n cs)))
  (h1:Q .normal ⟨(d,.d (.bool neg))::(t,.d (.sl n cs))::st.env,st.hp,st.k⟩) (h2:n=0->Q .normal ⟨(d,.d (.bool !neg))::(t,.d (.sl n cs))::st.env,st.hp,st.k⟩):
  SW P N k0 (.fG [⟨some t,.mv (.t s),none⟩,⟨some d,.jh neg 3 (.t t),none⟩] bs false) st Q:=by
 refine SW.vW (bk.one (dK:=[]) (c2:=[]) (e:=⟨.d (.sl n cs),[],[],0,True⟩) (by simp only [fP,ff,dz,ev,hl]) trivial ?_);refine bk.Mt rfl (λ o hc=>B9 (n:=n) (cs:=cs) hc (by simp [lH,ev])) (λ v F' h=>h.1) λ v F' hv=>bk.nil ?_
 obtain ⟨rfl,rfl | ⟨h0,rfl⟩⟩:=hv
 .exact h1
 .exact h2 h0
theorem SB.same {P:Program}{f:FuncId}{args:List SV}{F:Hp}{k nk:Nat}{v:SV}(h:SB P f args F k nk λ r F'=>r=v/\F'=F)(lE:F.ok (λ m=>(lk F m).isSome)=true)(ha:SV.av (λ m=>(lk F m).isSome) args=true)(hv:∀ q,v.ok q=true):aG P f args F k nk v F:=by
 unfold aG;refine h.here (λ m=>(lk F m).isSome) (λ m h e=>by rw [e] at h;cases h) ha lE ?_;rintro x F' ⟨rfl,rfl⟩ _ _;exact ⟨hv _,Hp.dV (λ m hm=>by rw [hm];rfl) lE⟩
end
section
variable {P:Program} {N k0:Nat}
theorem Ee {ops:Array Oper}{o:Oper}{si:SI}{st:St}{e:lY}{c1 c2:List CR}{i:Nat}{rd:Option Nat}{bY:Nat->Nm}{M0:Mem}{w0:World}{c0:Nat->Option Ob}{a:Act}{w:World}{Q':Exit->Act->World->Prop}{KK:Act->World->Prop}
  (ho:ops[i]? =some o) (hc:pS P ops o=some si) (hN:∀ d,si.dst=some d->d<N) (hop:fP P st si c1=some (e,c2)) (bn:e.ob) (fA:ic N bY M0 w0 c0 k0 st a w) (D9:∀ a' w',ic N bY M0 w0 c0 k0 (lH st si e) a' w'->KK a' w'):wpOpIn (jI rd) 0 P ops Q' i KK a w:=by
 obtain ⟨b1,b2,b3⟩:=qb hc hop bn;obtain ⟨g1,g2,g3⟩:=gE hc;unfold wpOpIn;simp only [ho];obtain ⟨lp,hdf,hsz,μ,M,gy,hS,hE⟩:=fA;have fA:ic N bY M0 w0 c0 k0 st a w:=⟨lp,hdf,hsz,μ,M,gy,hS,hE⟩;rcases b1 with ⟨j,want,t,sv,hg,hd,hE',hb,e1,e2,e3,e4⟩ | ⟨hg,hs⟩
 .have hv:=gy t _ hE'
  have hw:Region.wanted o (yielded ops a.tmps)=false:=by
   simp only [Region.wanted,hg];unfold mc at hb
   split at hb
   .rw [iA hd (Rp.bA.1 hv)]
    simpa using hb
   .obtain ⟨vs,e,hvs⟩:=Rp.ez.1 hv
    have hvs0:vs= #[]:=by have:=aS.aM.1 hvs;simpa using this
    rw [p0 hd (by rw [e,hvs0];rfl)];rfl
   .cases hb
  simp only [hw,Bool.false_eq_true,if_false];obtain ⟨v,F,F',nk,eo⟩:=e;simp only at e1 e2 e3 e4;subst e1;subst e2;subst e3;subst e4;exact ⟨λ _ _=>trivial,D9 _ _ (ic.skip g2 (λ d hd=>hN d (by rw [g2];exact hd)) fA)⟩
 .have hw:Region.wanted o (yielded ops a.tmps)=true:=by
   rcases hg with hg | ⟨j,want,t,hg,hd,hE'⟩
   .simp [Region.wanted,hg]
   .have hv:=Rp.bA.1 (gy t _ hE')
    simp only [Region.wanted,hg,iA hd hv];simp
  simp only [hw,if_true];exact (ic.step g2 (λ d hd=>hN d (by rw [g2];exact hd)) hs.q (λ v F' hQ hr=>by rw [hQ.2];exact b2 hr) fA λ v F' hQ a' w' hSt'=>D9 a' w' (by rw [hQ.1,hQ.2] at hSt';exact hSt'))
def LU (n:Nat)(bs:List Nat)(mask:Nat):List Nat:=(List.range n).filter λ i=> !mask.testBit i && (List.range n).all λ j=> !gC bs j i || mask.testBit j
def v_ (P:Program)(N k0:Nat)(c_:List SI)(bs:List Nat)(mask:Nat)(st:St)(K:St->Prop):Prop:=
 ∀ (ops:Array Oper),ops.size=c_.length->(∀ (j:Nat) (si:SI),c_[j]? =some si->∃ o:Oper,ops[j]? =some o/\pS P ops o=some si)->(∀ si∈c_,∀ d,si.dst=some d->d<N)->okB ops bs=true->
  ∀ (rd:Option Nat) (bY:Nat->Nm) (M0:Mem) (w0:World) (c0:Nat->Option Ob) (fuel:Nat) (listed:Array Bool) (a:Act) (w:World),listed.size=ops.size->iB listed ops.size=fuel->tS ops (λ j=>listed.getD j false)->
   (∀ j,j<ops.size->listed.getD j false=mask.testBit j)->ic N bY M0 w0 c0 k0 st a w->∀ Q':Exit->Act->World->Prop,(∀ st' a' w',K st'->ic N bY M0 w0 c0 k0 st' a' w'->Q' .normal a' w')->
   wpAnyIn (jI rd) 0 P .any ops Q' fuel listed a w
def Oa (P:Program)(N k0:Nat)(c_:List SI)(bs:List Nat)(mask:Nat)(st:St)(K:St->Prop)(i:Nat):Prop:=
 ∃ si e c2,c_[i]? =some si/\fP P st si []=some (e,c2)/\e.ob/\v_ P N k0 c_ bs (mask ||| 2 ^ i) (lH st si e) K
theorem v_.done {c_:List SI}{bs:List Nat}{mask:Nat}{st:St}{K:St->Prop}(h:(List.range c_.length).all (λ i=>mask.testBit i)=true)(hk:K st):v_ P N k0 c_ bs mask st K:=by
 intro ops hn kF hN hok rd bY M0 w0 c0 fuel listed a w hl hcnt hc hm fA Q' hQ;have hall:∀ j,j<ops.size->listed.getD j true=true:=λ j hj=>by
  have h1:=List.all_eq_true.1 h j (List.mem_range.2 (by omega));have h2:=hm j hj;rw [h1] at h2
  simpa [show j<listed.size by omega] using h2
 have h0:fuel=0:=by rw [<- hcnt];exact qa hall
 subst h0;refine ⟨List.eq_nil_iff_forall_not_mem.2 λ i hi=> ?_,hQ st a w hk fA⟩;obtain ⟨h1,o,h2,_⟩:=mem_ready.1 hi;rw [hall i (Array.getElem?_eq_some_iff.1 h2).1] at h1;cases h1
theorem v_.step {c_:List SI}{bs:List Nat}{mask:Nat}{st:St}{K:St->Prop}(hne:(List.range c_.length).all (λ i=>mask.testBit i)=false)(h:∀ i∈LU c_.length bs mask,Oa P N k0 c_ bs mask st K i):v_ P N k0 c_ bs mask st K:=by
 intro ops hn kF hN hok rd bY M0 w0 c0 fuel listed a w hl hcnt hc hm fA Q' hQ;have same:∀ j,j<ops.size->listed.getD j true=listed.getD j false:=λ j hj=>by simp [show j<listed.size by omega]
 cases fuel with
 | zero=>
  exfalso
  have hall:=oh hcnt;have:(List.range c_.length).all (λ i=>mask.testBit i)=true:=List.all_eq_true.2 λ i hi=>by
   have hi:=List.mem_range.1 hi;rw [<- hm i (by omega),<- same i (by omega)];exact hall i (by omega)
  rw [this] at hne;cases hne
 | succ fuel=>
  refine ⟨λ hr=> ?_,λ i hi=> ?_⟩
  .have:=qa (vO hok hl hr)
   omega
  .obtain ⟨h1,o,h2,h3⟩:=mem_ready.1 hi
   have hi':i<ops.size:=(Array.getElem?_eq_some_iff.1 h2).1;have hn0:listed.getD i false=false:=by rw [<- same i hi'];exact h1
   have hp:A6 ops (λ j=>listed.getD j false) i:=λ o' ho' e he hbd=>by
    rw [h2] at ho';injection ho' with ho';subst ho';exact h3 e he hbd
   have hin:i∈LU c_.length bs mask:=by
    unfold LU;rw [List.mem_filter,List.mem_range];refine ⟨by omega,?_⟩;rw [Bool.and_eq_true];refine ⟨by rw [<- hm i hi',hn0];rfl,List.all_eq_true.2 λ j hj=> ?_⟩;have hj:=List.mem_range.1 hj;cases ho:gC bs j i with
    | false=>rfl
    | true=>
     rw [<- hm j (by omega),rP hok hc hi' (by omega) hp ho];rfl
   obtain ⟨si,e,c2,g1,g2,g3,g4⟩:=h i hin;obtain ⟨o',ho',hco⟩:=kF i si g1;rw [h2] at ho';injection ho' with ho';subst ho';have hD:∀ j,(listed.getD j false || j == i)=(listed.setIfInBounds i true).getD j false:=λ j=>by
    by_cases hji:j=i
    .subst hji
     simp [show j<listed.size by omega]
    .rw [getD_set_ne false (Ne.symm hji)]
     simp [beq_eq_false_iff_ne.2 hji]
   have fin:∀ a' w',ic N bY M0 w0 c0 k0 (lH st si e) a' w'->wpAnyIn (jI rd) 0 P .any ops Q' fuel (listed.setIfInBounds i true) a' w':=λ a' w' hSt'=>by
    refine g4 ops hn kF hN hok rd bY M0 w0 c0 fuel _ a' w' (by simpa using hl) (by have:=p_ h1 ops.size;simp [hi'] at this;omega) (λ j o' hDj ho' ed he hbd=> ?_) (λ j hj=> ?_) hSt' Q' hQ
    .simp only [<- hD] at hDj ⊢
     simp only [Bool.or_eq_true,beq_iff_eq] at hDj;rcases hDj with h | rfl
     .simp [hc j o' h ho' ed he hbd]
     .rw [h2] at ho';injection ho' with ho';subst ho'
      have:=h3 ed he hbd;simp [this]
    .rw [<- hD,hm j hj,Nat.testBit_or,Nat.testBit_two_pow]
     congr 1
     by_cases hji:j=i
     .subst hji;simp
     .rw [beq_eq_false_iff_ne.2 hji,decide_eq_false (λ e=>hji e.symm)]
   exact Ee h2 hco (λ d hd=>hN si (List.mem_of_getElem? g1) d hd) g2 g3 fA fin
theorem SW.tree {st:St}{Q:Exit->St->Prop}{c_:List SI}{bs:List Nat}(hm:P.follows .mixedOrders=true)(h:v_ P N k0 c_ bs 0 st (Q .normal)):SW P N k0 (.fG c_ bs true) st Q:=by
 intro c hc rd hrf bY M0 w0 c0 a w fA;cases c <;> simp only [cK] at hc <;> first
  | (cases hc;done)
  | (exfalso;split at hc <;> cases hc;done)
  | (exfalso;obtain ⟨_,_,h'⟩:=Option.map_eq_some_iff.1 hc;cases h';done)
  | skip
 rename_i id ops draw
 split at hc <;> try (cases hc;done)
 rename_i sis' bs' hreg;injection hc with hc;injection hc with h1 h2 h3;subst h1;subst h2;subst h3;unfold DR at hreg
 split at hreg <;> try (cases hreg;done)
 rename_i sis2 hsis
 split at hreg <;> try (cases hreg;done)
 rename_i hchk;injection hreg with hreg;injection hreg with hr1 hr2;subst hr1;rw [hr2] at hchk;simp only [Bool.and_eq_true,Bool.not_true,Bool.false_or] at hchk;obtain ⟨⟨hok,_⟩,hin⟩:=hchk;obtain ⟨hlen,kF⟩:=mU hsis;have hn:ops.size=sis2.length:=by simpa using hlen
 refine wpIn_region_any hm ?_;have hSt2:ic N bY M0 w0 c0 k0 st a w.drew:=by
  obtain ⟨b1,b2,b3,μ,M,b4,b5,b6⟩:=fA;exact ⟨b1,b2.ev b5 (Ev.refl _ (λ _=>False) _ _ _ λ _ _ h=>h).drew,b3,μ,M,b4,b5.drew,b6.drew⟩
 refine h ops hn (λ j si hj=> ?_) (λ si hs d hd=> ?_) hok rd bY M0 w0 c0 ops.size _ a w.drew (by simp) ?_ (λ j o h=> ?_) (λ j hj=>by simp [hj]) hSt2 _ λ st' a' w' hk hs=>⟨st',hk,hs⟩
 .have hj':j<ops.size:=by rw [hn];exact (List.getElem?_eq_some_iff.1 hj).1
  obtain ⟨si',h1,h2⟩:=kF j ops[j] (by simp [hj']);rw [hj] at h1;injection h1 with h1;subst h1;exact ⟨ops[j],Array.getElem?_eq_getElem hj',h2⟩
 .have:=List.all_eq_true.1 hin si hs
  rw [hd] at this
  simpa using this
 .have:∀ n,n<=ops.size->iB (Array.replicate ops.size false) n=n:=by
   intro n
   induction n with
   | zero=>intro _;rfl
   | succ n ih=>intro hn';simp only [iB,ih (by omega)];simp [show n<ops.size by omega]
  exact this _ (Nat.le_refl _)
 .exfalso
  by_cases hj:j<ops.size
  .simp [hj] at h
  .simp [hj] at h
end
section
variable {P:Program} {N k0:Nat} {c_:List SI} {bs:List Nat} {mask:Nat} {st:St} {K:St->Prop}
theorem v_.s1 (i:Nat)(hne:(List.range c_.length).all (λ i=>mask.testBit i)=false:=by kernel_rfl)(hr:LU c_.length bs mask=[i]:=by rfl)(h1:Oa P N k0 c_ bs mask st K i):v_ P N k0 c_ bs mask st K:=
 v_.step hne λ j hj=>by rw [hr] at hj;simp at hj;subst hj;exact h1
theorem v_.s2 (i j:Nat)(hne:(List.range c_.length).all (λ i=>mask.testBit i)=false:=by kernel_rfl)(hr:LU c_.length bs mask=[i,j]:=by rfl)(h1:Oa P N k0 c_ bs mask st K i)(h2:Oa P N k0 c_ bs mask st K j):v_ P N k0 c_ bs mask st K:=
 v_.step hne λ q hj=>by rw [hr] at hj;simp at hj;rcases hj with rfl | rfl <;> assumption
theorem v_.s3 (i j l:Nat)(hne:(List.range c_.length).all (λ i=>mask.testBit i)=false:=by kernel_rfl)(hr:LU c_.length bs mask=[i,j,l]:=by rfl)(h1:Oa P N k0 c_ bs mask st K i)(h2:Oa P N k0 c_ bs mask st K j)(h3:Oa P N k0 c_ bs mask st K l):v_ P N k0 c_ bs mask st K:=
 v_.step hne λ q hj=>by rw [hr] at hj;simp at hj;rcases hj with rfl | rfl | rfl <;> assumption
theorem Oa.mk {i:Nat}{d:Option Nat}{op:SO}{g:Option (Nat×Bool)}{env env':List (Nat×SV)}{hp oe F F':Hp}{k k' mask':Nat}{v:SV}{nk:Nat}{ob:Prop}{Φ:Prop}(φ:Φ)
  (hsi:c_[i]? =some ⟨d,op,g⟩:=by rfl)
  (hg:g=none\/∃ t w,g=some (t,w)/\env.lookup t=some (.d (.bool w)):=by first | exact .inl rfl | exact .inr ⟨_,_,rfl,rfl⟩)
  (he:Φ->ff P ⟨env,hp,k⟩ op []=some (⟨v,F,F',nk,ob⟩,[]):=by
   intro φ;simp (disch:=omega) only [Go.Sl.seg,lu,gF,ff,dz,ev,pP,xV,lH,List.lookup,Nat.reduceBEq,Nat.reduceAdd,Nat.reduceMul,Nat.zero_add,SV.cells,if_true,if_false,reduceIte,Bool.false_eq_true,cW,bP,cR,cU,f_,gD,dm,lk,List.filter,Nat.reduceBNe,bne_self_eq_false,eq_self,zN,xU,gq,vk,vl,DC,aB.cells_one,BEq.rfl,beq_self_eq_true,Bool.true_or,Nat.reduceEqDiff,List.map_cons,List.map_nil,List.nil_append,List.cons_append,List.append_nil,Int.toNat_natCast,Nat.mul_one,Nat.add_zero,iP,iO,kB,iD,iE,iF,iG,iH,iI,kC,Option.isSome_some,Option.isSome_none,Option.isNone_some,Option.isNone_none,Nat.zero_ne_one,Nat.one_ne_zero,Bool.and_false,Bool.and_true,List.drop_zero,aB.aJ,aB.aZ,aB.bu,Dt.cells_one,Dt.aZ,Dt.zY,Dt.zZ,Dt.bu,Dt.aJ,Dt.Af,Dt.Ag,mN,eY,vm,tN,List.all_cons,List.all_nil,SV.dM,Int.cast_ofNat_Int,Int.reduceBNe,Int.reduceBEq,Int.reduceLT,Int.reduceLE,Int.reduceGT,Int.reduceGE,mY,uf,ug,Bool.not_true,Bool.not_false,Bool.or_false,Bool.or_true,Bool.false_or,Bool.or_self,aB.qe,aB.z7,aB.ud,aB.ue,aB.dH,aB.dI,Dt.qe,Dt.z_,Dt.dH,Dt.dI,List.all_append,aB.yA,Dt.pO,Bool.cond_true,Bool.cond_false,wrap_i64,jx,wrap_u32',wrap_u8',af,ux,kT,kU,Int.reduceToNat,List.length_nil,List.getElem?_cons_zero,List.getElem?_cons_succ,List.take_succ_cons,List.take_zero,List.drop_succ_cons,decide_true,decide_false,Bool.true_and,Bool.and_self,Bool.false_and,m_,ng,kM,kN,jw,MM.d_,kO,ow,nu,nA,nq,nw,nt,ny,ni,nj,ag.cells_one,ag.aZ,ag.kQ,ag.Aa,ag.uk,ag.Ab,ag.kR,ag.um,ag.uo,ag.Kx,ag.iJ,ag.iK,ag.qf,ag.Ky,ag.Ac,ag.uq,ag.Ad,ag.qg,ag.qh,ag.ur,ag.uu,ag.bu,ag.aJ,Cr.cells_one,Cr.aZ,Cr.kQ,Cr.kR,Cr.Ae,Cr.uw,Cr.iJ,Cr.iK,Cr.qf,Cr.qi,Cr.bu,Cr.aJ,Cr.pO,nB,nC,nD,nE,Sp.cells_one,Sp.aZ,Sp.kQ,Sp.gN,Sp.bu,Sp.aJ,Sp.fI,Sp.pO,nG,nF,φ]
   with_reducible rfl)
  (bn:ob:=by first | trivial | (repeat' (first | exact trivial | omega | apply Zq | (simp [-List.length_flatMap,-Int.natCast_add];done) | (simp [-List.length_flatMap,-Int.natCast_add] <;> omega))))
  (hh:Φ->bP (cW op) hp F F'=oe:=by (intro φ;simp only [φ,cW,bP,cR,cU,f_,gD,dm,lk,List.lookup,Nat.reduceBEq,BEq.rfl,beq_self_eq_true,if_true,if_false,reduceIte,Nat.reduceEqDiff,Bool.false_eq_true,Option.isSome_some,Option.isSome_none] <;> with_reducible rfl))
  (hk:k+nk=k':=by first | (simp only [Nat.add_zero,Nat.reduceAdd] <;> rfl) | rfl)
  (hm:mask ||| 2 ^ i=mask':=by first | (simp only [Nat.reducePow,Nat.reduceOr] <;> rfl) | rfl)
  (NJ:qN d v env=env':=by (simp only [qN] <;> rfl))
  (h:v_ P N k0 c_ bs mask' ⟨env',oe,k'⟩ K):Oa P N k0 c_ bs mask ⟨env,hp,k⟩ K i:=by
 subst hm;refine ⟨⟨d,op,g⟩,⟨v,F,F',nk,ob⟩,[],hsi,gG hg (he φ),bn,?_⟩;rw [iL,hh φ,hk,NJ];exact h
end
section
end
section
variable {P:Program}
structure o8 {σ:Type}(G:Hp)(Fh:σ->Hp)(s:σ)(kk:Nat):Prop where
 nd:(G.map (·.1)).Nodup
 lt:∀ n,n∈G.map (·.1)->n<kk
 no:∀ n,n∈G.map (·.1)->lk (Fh s) n=none
 ok:G.ok (λ n=>decide (n<kk))=true
 okF:(Fh s).ok (λ n=>decide (n<kk))=true
theorem gW {G:Hp}{n:Nat}(h:n∉G.map (·.1)):lk G n=none:=by
 cases hh:lk G n with
 | none=>rfl
 | some o=>
  exfalso;apply h
  clear h
  induction G with
  | nil=>simp [bt] at hh
  | cons x G ih=>
   rw [aa] at hh
   split at hh
   .rename_i e;rw [e];simp
   .rw [List.map_cons];exact List.mem_cons_of_mem _ (ih hh)
section
variable {σ:Type} {G:Hp} {Fh:σ->Hp} {s:σ} {kk:Nat}
theorem o8.sub (h:o8 G Fh s kk):HSub (Fh s) (G++Fh s):=λ n ob hn=>by
 have:n∉G.map (·.1):=λ hm=>by rw [h.no n hm] at hn;cases hn
 rw [iZ,gW this,Option.none_or];exact hn
theorem o8.all (h:o8 G Fh s kk)(hF:∀ x,x∈Fh s->lk (Fh s) x.1=some x.2):∀ x,x∈G++Fh s->lk (G++Fh s) x.1=some x.2:=λ x hx=>by
 rcases List.mem_append.1 hx with hx | hx
 .rw [iZ,aI h.nd x hx];rfl
 .exact h.sub x.1 x.2 (hF x hx)
theorem o8.sM (h:o8 G Fh s kk):(G++Fh s).ok (λ n=>decide (n<kk))=true:=by
 have h1:=h.ok;have h2:=h.okF;unfold Hp.ok at*;rw [List.all_append,h1,h2];rfl
theorem o8.mono {k':Nat}(h:o8 G Fh s kk)(hk:kk<=k'):o8 G Fh s k':=⟨h.nd,λ n hn=>Nat.lt_of_lt_of_le (h.lt n hn) hk,h.no,Hp.bG hk h.ok,Hp.bG hk h.okF⟩
theorem o8.less {G':Hp}(h:o8 G Fh s kk)(hs:G'.Sublist G):o8 G' Fh s kk:=
 ⟨h.nd.sublist (hs.map _),λ n hn=>h.lt n ((hs.map _).subset hn),λ n hn=>h.no n ((hs.map _).subset hn),by
  have:=h.ok;unfold Hp.ok at*;rw [List.all_eq_true] at*;exact λ x hx=>this x (hs.subset hx),h.okF⟩
theorem o8.out (h:o8 G Fh s kk){n:Nat}(hn:kk<=n):lk (Fh s) n=none:=Hp.out h.okF hn
theorem o8.new {n k':Nat}{ob:Ob}(h:o8 G Fh s kk)(hn:kk<=n)(hk:n<k')(ho:ob.ok (λ m=>decide (m<k'))=true):o8 ((n,ob)::G) Fh s k':=by
 refine ⟨List.nodup_cons.2 ⟨λ hm=> ?_,h.nd⟩,λ m hm=> ?_,λ m hm=> ?_,?_,Hp.bG (by omega) h.okF⟩
 .have:=h.lt n hm;omega
 .rcases List.mem_cons.1 hm with rfl | hm
  .exact hk
  .have:=h.lt m hm;omega
 .rcases List.mem_cons.1 hm with rfl | hm
  .exact h.out hn
  .exact h.no m hm
 .have:=Hp.bG (show kk<=k' by omega) h.ok
  unfold Hp.ok at*;rw [List.all_cons,this,ho]
  simpa using hk
theorem o8.keep {G1:Hp}(h1:o8 G1 Fh s kk)(hs:∀ x,x∈G->x∈G1):∀ n ob,lk (G++Fh s) n=some ob->lk (G1++Fh s) n=some ob:=λ n ob hn=>by
 rw [iZ] at hn;cases hg:lk G n with
 | some o=>
  rw [hg] at hn;have e:o=ob:=by simpa using hn
  have hm:(n,o)∈G:=by
   clear hn hs
   induction G with
   | nil=>simp [bt] at hg
   | cons x G ih=>
    rw [aa] at hg
    split at hg
    .rename_i e;injection hg with hg;rw [e,<- hg];simp
    .exact List.mem_cons_of_mem _ (ih hg)
  rw [iZ,aI h1.nd _ (hs _ hm),<- e];rfl
 | none=>
  rw [hg,Option.none_or] at hn;have:n∉G1.map (·.1):=λ hm=>by rw [h1.no n hm] at hn;cases hn
  rw [iZ,gW this,Option.none_or];exact hn
theorem aQ.own {k0 k:Nat}{env qH:List (Nat×SV)}{hp:Hp}(h:o8 G Fh s kk)(hF:∀ x,x∈Fh s->lk (Fh s) x.1=some x.2)(hk:k0<=kk)(he:aL id kk env qH)(hh:∀ n ob,lk (G++Fh s) n=some ob->lk hp n=some ob):aQ k0 ⟨env,hp,k⟩ ⟨qH,G++Fh s,kk⟩ id:=
 aQ.same hk he h.sM λ x hx=>hh _ _ (h.all hF x hx)
end
section
variable {N k0:Nat} {K:St->Prop}
end
end
section
def Ob.iw (n len:Nat)(ds:List DV):Ob->Ob
 | .box t cs=> .box t (SV.jM n len ds cs)
 | .map es c=> .map (es.map λ e=>(e.1,e.2.1,e.2.2.iw n len ds)) c
 | o=>o
theorem gp.iw {p:Nat->Prop}{μ:Nat->Nm}{M:Mem}{n len:Nat}{ds:List DV}(hg:∀ v,Rp p μ M (.gs n len) v->Rp p μ M (.d (.sl len ds)) v):∀ (r:List (Nat×SV×SV)) (es:List MapEntry),gp p μ M r es->gp p μ M (r.map λ e=>(e.1,e.2.1,e.2.2.iw n len ds)) es
 | [],es,h=>h
 | (b,k,v)::r,es,⟨e,es',h1,h2,h3,h4,h5⟩=>⟨e,es',h1,h2,h3,SV.oZ hg v _ h4,gp.iw hg r es' h5⟩
def B_ (n len:Nat)(ds:List DV)(h:Hp):Hp:=h.map λ x=>(x.1,x.2.iw n len ds)
theorem Bh (n len:Nat)(ds:List DV):∀ (h:Hp) (m:Nat),lk (B_ n len ds h) m=(lk h m).map (Ob.iw n len ds)
 | [],m=>rfl
 | (q,o)::h,m=>by
  have ih:=Bh n len ds h m;unfold B_ at ih ⊢;rw [List.map_cons,aa,aa]
  split
  .rfl
  .exact ih
abbrev Bi (φ:Ob->Ob)(n len:Nat)(ds:List DV):Prop:=∀ (p:Nat->Prop) (μ:Nat->Nm) (M:Mem) (w:World),(∀ v,Rp p μ M (.gs n len) v->Rp p μ M (.d (.sl len ds)) v)->∀ m o,bU p μ M w m o->bU p μ M w m (φ o)
abbrev uD (φ:Ob->Ob)(h:Hp):Hp:=h.map λ x=>(x.1,φ x.2)
theorem mw (φ:Ob->Ob):∀ (h:Hp) (m:Nat),lk (uD φ h) m=(lk h m).map φ
 | [],m=>rfl
 | (q,o)::h,m=>by
  have ih:=mw φ h m;unfold uD at ih ⊢;rw [List.map_cons,aa,aa]
  split
  .rfl
  .exact ih
theorem bL.Mv {p:Nat->Prop}{μ:Nat->Nm}{M:Mem}{w:World}{h:Hp}{n len:Nat}{ds:List DV}{φ:Ob->Ob}(hφ:Bi φ n len ds)(hS:bL p μ M (lk h) w)(hg:∀ v,Rp p μ M (.gs n len) v->Rp p μ M (.d (.sl len ds)) v):bL p μ M (lk (uD φ h)) w:=by
 refine ⟨⟨hS.mem.cell,hS.mem.ko⟩,λ m ob hm=> ?_,λ m m' hm hm'=> ?_⟩
 .rw [mw] at hm
  obtain ⟨o,ho,rfl⟩:=Option.map_eq_some_iff.1 hm;obtain ⟨a1,a2,a3⟩:=hS.obs m o ho;exact ⟨a1,hφ p μ M w hg _ _ a2,a3⟩
 .have key:∀ m,lk (uD φ h) m≠none->lk h m≠none:=λ m hm hn=>hm (by rw [mw,hn];rfl)
  exact hS.inj m m' (key m hm) (key m' hm')
theorem Al (n len:Nat)(ds:List DV):Bi (Ob.iw n len ds) n len ds:=λ p μ M w hg m o a2=>by
 cases o with
 | box t cs=>
  simp only [bU,Ob.iw] at a2 ⊢;obtain ⟨b1,vs,b2,b3⟩:=a2;exact ⟨b1,vs,b2,SV.ou hg cs _ b3⟩
 | map es c=>
  simp only [bU,Ob.iw] at a2 ⊢;obtain ⟨b1,vs,b2,b3⟩:=a2;exact ⟨b1,vs,b2,gp.iw hg es _ b3⟩
 | _=>exact a2
def Ob.xk (n len:Nat)(ds:List DV):Ob->Ob
 | .arr e sz l cs=> .arr e sz l (SV.jM n len ds cs)
 | o=>o.iw n len ds
theorem yK (n len:Nat)(ds:List DV):∀ (cs:List SV),(SV.jM n len ds cs).length=cs.length
 | []=>rfl
 | c::cs=>by simp only [SV.jM,List.length_cons,yK n len ds cs]
theorem HB (n len:Nat)(ds:List DV):Bi (Ob.xk n len ds) n len ds:=λ p μ M w hg m o a2=>by
 cases o with
 | arr e sz l cs=>
  simp only [bU,Ob.xk] at a2 ⊢;rcases a2 with ⟨b1,b2,b3⟩ | ⟨b1,vs,b2,b3,b4,b5,b6,b7⟩
  .exact .inl ⟨b1,b2,by rw [b3];rfl⟩
  .exact .inr ⟨b1,vs,b2,by rw [yK];exact b3,b4,b5,b6,SV.ou hg cs _ b7⟩
 | box t cs=>exact Al n len ds p μ M w hg m _ a2
 | map es c=>exact Al n len ds p μ M w hg m _ a2
 | _=>exact a2
section
variable {P:Program} {N k0:Nat} {st:St} {Q:Exit->St->Prop}
theorem ic.Bj {φ:Ob->Ob}{bY:Nat->Nm}{M0:Mem}{w0:World}{c0:Nat->Option Ob}{a:Act}{w:World}(n:Nat){e sz len:Nat}{cs:List SV}{ds:List DV}(hφ:Bi φ n len ds)(hn:lk st.hp n=some (.arr e sz len cs))(hcs:cs=ds.map .d)
    (h:ic N bY M0 w0 c0 k0 st a w):ic N bY M0 w0 c0 k0 ⟨lR n len ds st.env,uD φ (dm st.hp n),st.k⟩ a w:=by
  subst hcs;obtain ⟨lp,hdf,hsz,μ,M,gy,hS,hE⟩:=h;obtain ⟨hpn,bn,hMn⟩:=hS.obs n _ hn;rcases bn with ⟨hdead,hl0,hds⟩ | ⟨hlive,vs,hb,hl1,hl2,LP,hl4,hr⟩
  . have hd0:ds=[]:=by simpa using hds
    subst hd0;subst hl0;have hg:∀ v,Rp (· <st.k) μ M (.gs n 0) v->Rp (· <st.k) μ M (.d (.sl 0 [])) v:=λ v hv=>by
      refine Rp.b_.2 ?_;simp only [bK];obtain ⟨h,_⟩ | ⟨_,_,A,e1⟩:=hv.lD
      . rw [hdead] at h;cases h
      . exact ⟨A,0,e1,Nat.le_refl _,λ _=>trivial,λ h=>absurd h (Nat.lt_irrefl _)⟩
    have hsub:∀ m ob,lk (dm st.hp n) m=some ob->lk st.hp m=some ob:=λ m ob hm=>by
      rw [di] at hm
      split at hm
      . cases hm
      . exact hm
    refine ⟨lp,hdf,hsz,μ,M,λ t s hs=> ?_,(hS.sub hsub).Mv hφ hg,hE.xY λ m hm=> ?_⟩
    . rw [kI] at hs
      obtain ⟨s',hs',rfl⟩:=Option.map_eq_some_iff.1 hs;exact SV.oZ hg s' _ (gy t s' hs')
    . obtain ⟨o1,ho1⟩:=Option.ne_none_iff_exists'.1 hm
      rw [mw] at ho1;obtain ⟨o2,ho2,_⟩:=Option.map_eq_some_iff.1 ho1;rw [hsub m o2 ho2];simp
  have hMn:=hMn hlive;have hlen:ds.length=len*sz:=by simpa using hl1
  let M':Mem:=λ b o=>if b=(μ n).blk then (if o<len*sz then vs[o]? else none) else M b o
  have hne:∀ b,b≠(μ n).blk->∀ o,M' b o=M b o:=λ b hb o=>by simp [M',hb]
  have hle:Mem.le M M':=λ b o v hv=>by
    have:b≠(μ n).blk:=λ e=>by rw [e,hMn] at hv;cases hv
    rw [hne b this];exact hv
  have hoth:∀ m,lk st.hp m≠none->m≠n->(μ m).live=true->(μ m).blk≠(μ n).blk:=λ m hm hmn lm e=>hmn (hS.inj m n hm (by rw [hn];simp) lm hlive e)
  have hsub:∀ m ob,lk (dm st.hp n) m=some ob->lk st.hp m=some ob/\m≠n:=λ m ob hm=>by
    rw [di] at hm
    split at hm
    . cases hm
    . rename_i e;exact ⟨hm,e⟩
  have hg:∀ v,Rp (· <st.k) μ M' (.gs n len) v->Rp (· <st.k) μ M' (.d (.sl len ds)) v:=λ v hv=>by
    obtain ⟨_,e1⟩ | ⟨h,_⟩:=hv.lD
    rotate_left
    . rw [hlive] at h;cases h
    refine Rp.b_.2 ?_;simp only [bK];refine ⟨_,_,e1,hl2,λ h0=> ?_,λ _=>⟨_,_,rfl,de.mk λ i c hi=> ?_⟩⟩
    . subst h0
      simp at hlen;exact hlen
    . obtain ⟨u,hu,hru⟩:=hr.JA hi
      have hil:i<len*sz:=by rw [<- hlen];exact (List.getElem?_eq_some_iff.1 hi).1
      refine ⟨u,?_,bK.mono hle _ _ hru⟩;rw [List.getElem?_take_of_lt hil] at hu;simp only [M',if_true,Nat.zero_add,hil]
      simpa using hu
  have hS2:bL (· <st.k) μ M' (lk (dm st.hp n)) w:=by
    refine ⟨⟨λ b o v hv=> ?_,hS.mem.ko.le hle⟩,λ m ob hm=> ?_,λ m m' hm hm' lm lm' e=> ?_⟩
    . by_cases hbn:b=(μ n).blk
      . subst hbn
        simp only [M',if_true] at hv
        split at hv
        . rw [cell_of hb];exact hv
        . cases hv
      . rw [hne b hbn] at hv
        exact hS.mem b o v hv
    . obtain ⟨hm1,hmn⟩:=hsub m ob hm
      obtain ⟨a1,a2,a3⟩:=hS.obs m ob hm1;refine ⟨a1,a2.more (λ _ h=>h) (λ _ _=>rfl) hle λ _=>rfl,λ lm o=> ?_⟩;rw [hne _ (hoth m (by rw [hm1];simp) hmn lm)];exact a3 lm o
    . obtain ⟨o1,ho1⟩:=Option.ne_none_iff_exists'.1 hm
      obtain ⟨o2,ho2⟩:=Option.ne_none_iff_exists'.1 hm';exact hS.inj m m' (by rw [(hsub m o1 ho1).1];simp) (by rw [(hsub m' o2 ho2).1];simp) lm lm' e
  refine ⟨lp,hdf,hsz,μ,M',λ t s hs=> ?_,hS2.Mv hφ hg,⟨hE.old,Mem.le_trans hE.mem hle,λ b hb0 hf=> ?_,hE.size,λ m hm=> ?_,hE.os,hE.tape,hE.output⟩⟩
  . rw [kI] at hs
    obtain ⟨s',hs',rfl⟩:=Option.map_eq_some_iff.1 hs;exact SV.oZ hg s' _ ((gy t s' hs').more (λ _ h=>h) (λ _ _=>rfl) hle)
  . have hbn:b≠(μ n).blk:=λ e=>by
      rcases hE.names n (by rw [hn];simp) with ⟨_,hh⟩ | ⟨h,h'⟩
      . rcases hh hlive with h | ⟨m,hm,lm,e'⟩
        . omega
        . exact hf m hm lm (e'.trans e.symm)
      . rw [hE.old n h] at e hlive
        exact hf n h' hlive e.symm
    obtain ⟨f1,f2⟩:=hE.frame b hb0 hf;exact ⟨f1,λ o=>by rw [hne b hbn];exact f2 o⟩
  . obtain ⟨o1,ho1⟩:=Option.ne_none_iff_exists'.1 hm
    rw [mw] at ho1;obtain ⟨o2,ho2,_⟩:=Option.map_eq_some_iff.1 ho1;exact hE.names m (by rw [(hsub m o2 ho2).1];simp)
theorem ic.tw {bY:Nat->Nm}{M0:Mem}{w0:World}{c0:Nat->Option Ob}{a:Act}{w:World}(n:Nat){e sz len:Nat}{cs:List SV}{ds:List DV}(hn:lk st.hp n=some (.arr e sz len cs))(hcs:cs=ds.map .d)
  (h:ic N bY M0 w0 c0 k0 st a w):ic N bY M0 w0 c0 k0 ⟨lR n len ds st.env,B_ n len ds (dm st.hp n),st.k⟩ a w:=h.Bj n (Al n len ds) hn hcs
theorem SW.HC {s:bI}(n:Nat){e sz len:Nat}{cs:List SV}(ds:List DV)(hn:lk st.hp n=some (.arr e sz len cs))(hcs:cs=ds.map .d)(h:SW P N k0 s ⟨lR n len ds st.env,uD (Ob.xk n len ds) (dm st.hp n),st.k⟩ Q):SW P N k0 s st Q:=
 λ c hc rd hrf bY M0 w0 c0 a w fA=>h c hc rd hrf bY M0 w0 c0 a w (fA.Bj n (HB n len ds) hn hcs)
theorem SW.tw {s:bI}(n:Nat){e sz len:Nat}{cs:List SV}(ds:List DV)(hn:lk st.hp n=some (.arr e sz len cs))(hcs:cs=ds.map .d)(h:SW P N k0 s ⟨lR n len ds st.env,B_ n len ds (dm st.hp n),st.k⟩ Q):SW P N k0 s st Q:=
 λ c hc rd hrf bY M0 w0 c0 a w fA=>h c hc rd hrf bY M0 w0 c0 a w (fA.tw n hn hcs)
end
end
section
variable {P:Program}
end
section
variable {P:Program}
theorem ic.xl {N k0:Nat}{st:St}{bY:Nat->Nm}{M0:Mem}{w0:World}{c0:Nat->Option Ob}{a:Act}{w:World}(x ty i:Nat)(e sz:Nat){cs:List SV}(ht:lk st.hp x=some (.box ty cs))(hi:cs[i]? =some (.d .aN))(h:ic N bY M0 w0 c0 k0 st a w):
    ic N bY M0 w0 c0 k0 ⟨st.env,(x,.box ty (cs.set i (.gs st.k 0)))::(st.k,.arr e sz 0 [])::st.hp,st.k+1⟩ a w:=by
  obtain ⟨lp,hdf,hsz,μ,M,gy,hS,hE⟩:=h;have hmu:=tL (μ:=μ) (m:=⟨0,0,false⟩) (p:=(· <st.k)) (k:=st.k) (Nat.lt_irrefl _);have hup:∀ n,n<st.k->n<st.k+1:=λ n h=>by omega
  have hlt:∀ n ob,lk st.hp n=some ob->n<st.k:=λ n ob h=>(hS.obs n ob h).1
  have hxk:=hlt x _ ht;have hne:∀ n,n≠st.k->lk ((x,.box ty (cs.set i (.gs st.k 0)))::(st.k,.arr e sz 0 [])::st.hp) n≠none->lk st.hp n≠none:=λ n h1 h2=>by
    rw [aa] at h2
    split at h2
    . rename_i e1;rw [e1,ht];simp
    . rw [aa,if_neg h1] at h2;exact h2
  refine ⟨by show k0<=st.k+1;omega,hdf,hsz,xZ μ st.k ⟨0,0,false⟩,M,λ u s hs=> ?_,⟨hS.mem,λ n ob hn=> ?_,λ n m hn hm ln lm e=> ?_⟩,⟨λ n hn=> ?_,hE.mem,hE.frame,hE.size,λ n hn=> ?_,hE.os,hE.tape,hE.output⟩⟩
  . exact (gy u s hs).more hup hmu (Mem.le_refl M)
  . rw [aa] at hn
    split at hn
    . rename_i e1
      subst e1;injection hn with hn;subst hn;obtain ⟨a1,⟨hl,vs,hb,hr⟩,a3⟩:=hS.obs n _ ht;rw [hmu n a1];refine ⟨hup n a1,⟨hl,vs,hb,?_⟩,a3⟩;have hr:=hr.more hup hmu (Mem.le_refl M);obtain ⟨v,hv,h1⟩:=hr.get hi;have h1:=h1.rep;simp only [cI,bK] at h1;have hg:Rp (· <st.k+1) (xZ μ st.k ⟨0,0,false⟩) M (.gs st.k 0) v:=by
        intro ν gR;simp only [cI];rw [gR st.k (Nat.lt_succ_self _),bq];exact .inr ⟨rfl,trivial,none,h1⟩
      have h2:=hr.set i hg;obtain ⟨hiv,ev⟩:=List.getElem?_eq_some_iff.1 hv
      rwa [<- ev,List.set_getElem_self hiv] at h2
    . rw [aa] at hn
      split at hn
      . rename_i e1
        subst e1;injection hn with hn;subst hn;rw [bq];exact ⟨Nat.lt_succ_self _,.inl ⟨rfl,rfl,rfl⟩,λ h=>by cases h⟩
      . obtain ⟨a1,a2,a3⟩:=hS.obs n ob hn
        rw [hmu n a1];exact ⟨hup n a1,a2.more hup hmu (Mem.le_refl M) λ _=>rfl,a3⟩
  . by_cases e1:n=st.k
    . subst e1;rw [bq] at ln;cases ln
    . by_cases e2:m=st.k
      . subst e2;rw [bq] at lm;cases lm
      . have hn:=hne n e1 hn
        have hm:=hne m e2 hm;obtain ⟨o1,ho1⟩:=Option.ne_none_iff_exists'.1 hn;obtain ⟨o2,ho2⟩:=Option.ne_none_iff_exists'.1 hm;rw [hmu n (hlt n o1 ho1)] at e ln;rw [hmu m (hlt m o2 ho2)] at e lm;exact hS.inj n m hn hm ln lm e
  . simp only at hn
    by_cases e1:n=st.k
    . subst e1;omega
    . rw [eE _ _ _ e1];exact hE.old n (by omega)
  . by_cases e1:n=st.k
    . subst e1
      rw [bq];exact .inl ⟨⟨by omega,Nat.lt_succ_self _⟩,λ h=>by cases h⟩
    . have hn:=hne n e1 hn
      obtain ⟨o1,ho1⟩:=Option.ne_none_iff_exists'.1 hn;rw [hmu n (hlt n o1 ho1)];rcases hE.names n hn with ⟨b1,b2⟩ | ⟨b1,b2⟩
      . exact .inl ⟨⟨b1.1,by have:=b1.2;show n<st.k+1;omega⟩,b2⟩
      . refine .inr ⟨λ h=> ?_,b2⟩
        have:n<st.k:=hlt n o1 ho1;exact b1 ⟨h.1,this⟩
theorem SW.xl {N k0:Nat}{st:St}{Q:Exit->St->Prop}{s:bI}(x ty i:Nat)(e sz:Nat){cs:List SV}(ht:lk st.hp x=some (.box ty cs))(hi:cs[i]? =some (.d .aN))(h:SW P N k0 s ⟨st.env,(x,.box ty (cs.set i (.gs st.k 0)))::(st.k,.arr e sz 0 [])::st.hp,st.k+1⟩ Q):SW P N k0 s st Q:=
 λ c hc rd hrf bY M0 w0 c0 a w fA=>h c hc rd hrf bY M0 w0 c0 a w (fA.xl x ty i e sz ht hi)
mutual
theorem SV.jG {n len:Nat}{ds:List DV}{q:Nat->Bool}(hq:q n=false):∀ (s:SV),s.ok q=true->s.iw n len ds=s
 | .gs m l,h=>by
  simp only [SV.iw];rw [if_neg];intro e;subst e;simp only [SV.ok] at h;rw [hq] at h;cases h
 | .agg cs,h=>by simp only [SV.iw];rw [SV.ir hq cs (by simpa only [SV.ok] using h)]
 | .cZ cs,h=>by simp only [SV.iw];rw [SV.ir hq cs (by simpa only [SV.ok] using h)]
 | .d _,_=>rfl
 | .ptr _ _,_=>rfl
 | .vp _ _,_=>rfl
 | .bs _ _ _,_=>rfl
 | .mp _,_=>rfl
 | .it _,_=>rfl
 | .fn _ _ _,_=>rfl
 | .yl _,_=>rfl
 | .any,_=>rfl
theorem SV.ir {n len:Nat}{ds:List DV}{q:Nat->Bool}(hq:q n=false):∀ (s:List SV),SV.av q s=true->SV.jM n len ds s=s
 | [],_=>rfl
 | c::cs,h=>by
  simp only [SV.av,Bool.and_eq_true] at h;simp only [SV.jM];rw [SV.jG hq c h.1,SV.ir hq cs h.2]
end
theorem uE {n len:Nat}{ds:List DV}{q:Nat->Bool}(hq:q n=false){es:List (Nat×SV×SV)}(h:(es.all λ e=>e.2.1.ok q && e.2.2.ok q)=true):es.map (λ e=>(e.1,e.2.1,e.2.2.iw n len ds))=es:=by
 conv=>rhs;rw [<- List.map_id es]
 refine List.map_congr_left λ e he=> ?_
 have:=List.all_eq_true.1 h e he;simp only [Bool.and_eq_true] at this;rw [SV.jG hq _ this.2];rfl
section
variable {N k0:Nat} {Q:Exit->St->Prop}
end
end
section
variable {P:Program}
theorem gp.plain {p p':Nat->Prop}{μ aY:Nat->Nm}{M M':Mem}:∀ (r:List (Nat×SV×SV)) (es:List MapEntry),(∀ e,e∈r->SV.Plain e.2.1/\SV.Plain e.2.2)->gp p μ M r es->gp p' aY M' r es
 | [],es,_,h=>h
 | (b,k,v)::r,es,hp,⟨e,es',h1,h2,h3,h4,h5⟩=>
  ⟨e,es',h1,h2,(hp _ (List.mem_cons_self ..)).1 _ _ _ _ _ _ _ h3,(hp _ (List.mem_cons_self ..)).2 _ _ _ _ _ _ _ h4,gp.plain r es' (λ e he=>hp e (List.mem_cons_of_mem _ he)) h5⟩
theorem SC.Mw {f:FuncId}{k nk m len sz:Nat}{t:TypeId}{as:List SV}{ds:List DV}{es:List (Nat×SV×SV)}{c:Nat}(h:aG P f (.d (.sl len ds)::as) [] k nk (.mp k) [(k,.map es c)])(hnk:0<nk)
  (hv:∀ e,e∈es->SV.Plain e.2.1/\SV.Plain e.2.2) (ha:∀ c,c∈as->SV.Plain c) (hl:ds.length=len*sz) (hmk:m<k):
  aG P f (.gs m len::as) [(m,.arr t sz len (ds.map .d))] k nk (.mp k) [(k,.map es c),(m,.arr t sz len (ds.map .d))]:=by
 refine ⟨by simpa using h.1,λ p μ M w vals hp hr hS=> ?_⟩;obtain ⟨hpm,bn,hnone⟩:=hS.obs m (.arr t sz len (ds.map .d)) (by simp [aa])
 let M':Mem:=λ b o=>if (μ m).live=true/\b=(μ m).blk then w.cell? ⟨b,o,none⟩ else M b o
 have hMM:Mem.le M M':=λ b o x hx=>by
  show (if (μ m).live=true/\b=(μ m).blk then w.cell? ⟨b,o,none⟩ else M b o)=some x
  split
  .exact hS.mem b o x hx
  .exact hx
 have hr':aS (λ _=>False) μ M' (.d (.sl len ds)::as) vals.toList:=by
  obtain ⟨u,us,e,h1,h2⟩:=aS.aD.1 hr;rw [e];refine aS.aD.2 ⟨u,us,rfl,Rp.b_.2 ?_,SV.Ak ha h2⟩;have h3:=h1.rep;simp only [cI] at h3;simp only [bU] at bn;simp only [bK];rcases h3 with ⟨hlv,rfl⟩ | ⟨hlv,rfl,A,rfl⟩
  .rcases bn with ⟨h4,_⟩ | ⟨_,vs,hb,_,h5,_,h6,hcs⟩
   .rw [hlv] at h4;cases h4
   refine ⟨_,_,rfl,h5,λ hz=> ?_,λ hz=>⟨(μ m).blk,0,rfl,Bg 0 ds λ i x hx=> ?_⟩⟩
   .subst hz;simpa using hl
   .obtain ⟨u,hu,hd⟩:=hcs.get (i:=i) (c:= .d x) (by simp [hx])
    refine ⟨u,?_,bK.mono hMM x u (Rp.b_.1 hd)⟩;show (if (μ m).live=true/\(μ m).blk=(μ m).blk then w.cell? ⟨(μ m).blk,0+i,none⟩ else M (μ m).blk (0+i))=some u;rw [if_pos ⟨hlv,rfl⟩,cell_of hb];rw [List.getElem?_take] at hu
    split at hu
    .simpa using hu
    .cases hu
  .exact ⟨A,0,rfl,Nat.le_refl _,λ _=>by simpa using hl,λ hz=>absurd hz (Nat.lt_irrefl 0)⟩
 have rH:bL (λ _=>False) μ M' (lk []) w:=by
  refine ⟨⟨λ b o x hx=> ?_,hS.mem.ko.le hMM⟩,λ n ob hn=>by simp [bt] at hn,λ n _ hn=>by simp [bt] at hn⟩;have hx:(if (μ m).live=true/\b=(μ m).blk then w.cell? ⟨b,o,none⟩ else M b o)=some x:=hx
  split at hx
  .exact hx
  .exact hS.mem b o x hx
 refine (h.2 (λ _=>False) μ M' w vals (λ _ _ h=>h) hr' rH).mono ?_;rintro e w' ⟨r,F',aY,M'',u,rfl,⟨rfl,rfl⟩,hru,hS2,hE⟩;have hfr:∀ b,b<w.heap.size->w'.heap[b]? =w.heap[b]? :=λ b hb=>(hE.frame b hb (λ n hn=>by simp [bt] at hn)).1
 have hnew:k<=k/\k<k+nk:=⟨Nat.le_refl _,by omega⟩;have hmm:aY m=μ m:=hE.old m (λ hn=>by omega);obtain ⟨_,kob,knone⟩:=hS2.obs k (.map es c) (by simp [aa]);simp only [bU] at kob;obtain ⟨klv,dB,kh,kes⟩:=kob;have kfresh:w.heap.size<=(aY k).blk:=by
  rcases hE.names k (by simp [aa]) with ⟨_,h1⟩ | ⟨h1,_⟩
  .rcases h1 klv with h2 | ⟨n,hn,_⟩
   .exact h2
   .simp [bt] at hn
  .exact absurd hnew h1
 have hlk:∀ n ob,lk [(k,Ob.map es c),(m,.arr t sz len (ds.map .d))] n=some ob->(n=k/\ob= .map es c)\/(n=m/\ob= .arr t sz len (ds.map .d)):=λ n ob hn=>by
  rw [aa] at hn
  split at hn
  .rename_i e;exact .inl ⟨e,(Option.some.inj hn).symm⟩
  .rw [aa] at hn
   split at hn
   .rename_i e;exact .inr ⟨e,(Option.some.inj hn).symm⟩
   .simp [bt] at hn
 have hne:∀ n,lk [(k,Ob.map es c),(m,.arr t sz len (ds.map .d))] n≠none->n=k\/n=m:=λ n hn=>by
  obtain ⟨ob,ho⟩:=Option.ne_none_iff_exists'.1 hn;rcases hlk n ob ho with ⟨h,_⟩ | ⟨h,_⟩
  .exact .inl h
  .exact .inr h
 have hmlt:(μ m).live=true->(μ m).blk<w.heap.size:=λ hlv=>bn.lt hlv
 have hMM2:Mem.le M M'':=λ b o x hx=>hE.mem b o x (hMM b o x hx)
 refine ⟨.mp k,[(k,.map es c),(m,.arr t sz len (ds.map .d))],aY,M,u,rfl,⟨rfl,rfl⟩,λ ν gR=> ?_,⟨⟨λ b o x hx=>hS2.mem b o x (hMM2 b o x hx),hS.mem.ko⟩,λ n ob hn=> ?_,λ a b ha hb la lb e=> ?_⟩,⟨hE.old,Mem.le_refl M,λ b hb _=>⟨hfr b hb,λ _=>rfl⟩,hE.size,λ n hn=> ?_,hE.os,hE.tape,hE.output⟩⟩
 .have:=hru ν λ n hn=>gR n (hn.elim (λ h=>h.elim) .inr)
  simpa only [cI] using this
 .rcases hlk n ob hn with ⟨rfl,rfl⟩ | ⟨rfl,rfl⟩
  .refine ⟨.inr hnew,?_,λ hlv o=> ?_⟩
   .simp only [bU]
    exact ⟨klv,dB,kh,gp.plain _ _ hv kes⟩
   .cases hx:M (aY n).blk o with
    | none=>rfl
    | some x=>
     have:=knone hlv o;rw [hMM2 _ _ _ hx] at this;cases this
  .rw [hmm]
   exact ⟨.inl hpm,bn.more (λ n h=> .inl h) (λ n hn=>hE.old n λ hnw=>hp n hnw hn) (Mem.le_refl M) (λ hlv=>hfr _ (hmlt hlv)),hnone⟩
 .rcases hne a ha with rfl | rfl <;> rcases hne b hb with rfl | rfl
  .rfl
  .rw [hmm] at lb e
   have:=hmlt lb;omega
  .rw [hmm] at la e
   have:=hmlt la;omega
  .rfl
 .rcases hne n hn with rfl | rfl
  .exact .inl ⟨hnew,λ _=> .inl kfresh⟩
  .exact .inr ⟨λ hnw=>by omega,by simp [aa]⟩
end
end Go.Sl
