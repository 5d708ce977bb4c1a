/-
 A part of a box, lent as a row to a function that only reads it.
-/
import Derived.Test.YtefjaphfnkbbkaaUK
import Derived.Test.YtefjaphfnkbbkaaU9
import Derived.Test.YtefjaphfnkbbkaaU7
set_option linter.unusedVariables false
set_option linter.unusedSimpArgs false
set_option linter.unusedSectionVars false
namespace Go.Sl
open Go.RowKit
section
variable {P:Program}
end
section
theorem bK {h:Hp}(hn:(h.map (·.1)).Nodup):∀ x,x∈h→lk h x.1=some x.2:=by
 induction h with
 | nil=>intro x hx;cases hx
 | cons y h ih=>
  intro x hx
  rw [List.map_cons,List.nodup_cons] at hn
  obtain ⟨a,o⟩:=y
  rw [ag]
  rcases List.mem_cons.1 hx with rfl | hx
  ·simp
  ·have:x.1≠a:=fun e=>hn.1 (by rw [← e];exact List.mem_map.2 ⟨x,hx,rfl⟩)
   rw [if_neg this]
   exact ih hn.2 x hx
def qO (F:Hp)(x:Nat×Ob):Nat×Ob:=match lk F x.1 with
 | some o=>(x.1,o)
 | none=>x
theorem wS:∀ {h:Hp} {n:Nat} {o:Ob},(h.map (·.1)).Nodup→n∈h.map (·.1)→ia h n o=h.map fun x=>if x.1=n then (n,o) else x
 | [],n,o,_,hm=>by cases hm
 | (m,o')::h,n,o,hn,hm=>by
  rw [List.map_cons,List.nodup_cons] at hn
  simp only [ia,List.map_cons]
  by_cases e:m=n
  ·subst e
   simp only [if_true]
   congr 1
   symm
   conv=>rhs;rw [← List.map_id h]
   refine List.map_congr_left fun x hx=> ?_
   rw [if_neg fun e=>hn.1 (by rw [← e];exact List.mem_map.2 ⟨x,hx,rfl⟩)]
   rfl
  ·rw [if_neg e,if_neg e,wS hn.2 ((List.mem_cons.1 hm).resolve_left fun h=>e h.symm)]
theorem ku {h:Hp}{n:Nat}(hm:n∈h.map (·.1)):∃ o,lk h n=some o:=by
 induction h with
 | nil=>cases hm
 | cons y h ih=>
  obtain ⟨m,o⟩:=y
  rw [ag]
  by_cases e:n=m
  ·exact ⟨o,by rw [if_pos e]⟩
  ·rw [if_neg e]
   exact ih ((List.mem_cons.1 hm).resolve_left e)
theorem sH (F:Hp)(x:Nat×Ob):(qO F x).1=x.1:=by unfold qO;split <;> rfl
theorem uA {h:Hp}(hn:(h.map (·.1)).Nodup):∀ {F:Hp},(F.map (·.1)).Nodup→(∀ n,n∈F.map (·.1)→n∈h.map (·.1))→dM h F=h.map (qO F)
 | [],_,_=>by
  simp only [dM]
  conv=>lhs;rw [← List.map_id h]
  rfl
 | (n,o)::F,hF,hsub=>by
  rw [List.map_cons,List.nodup_cons] at hF
  have ih:=uA hn hF.2 fun m hm=>hsub m (List.mem_cons_of_mem _ hm)
  have hnames:(h.map (qO F)).map (·.1)=h.map (·.1):=by rw [List.map_map];exact List.map_congr_left fun x _=>sH F x
  have hmem:n∈(h.map (qO F)).map (·.1):=by rw [hnames];exact hsub n (by simp)
  simp only [dM]
  rw [ih]
  unfold iM
  obtain ⟨o1,ho1⟩:=ku hmem
  rw [ho1]
  dsimp only
  rw [wS (by rw [hnames];exact hn) hmem,List.map_map]
  refine List.map_congr_left fun x _=> ?_
  show (if (qO F x).1=n then (n,o) else qO F x)=qO ((n,o)::F) x
  rw [sH]
  unfold qO
  rw [ag]
  by_cases e:x.1=n
  ·simp [e]
  ·simp [e]
theorem wU {F:Hp}:∀ {A B:Hp},A.map (·.1)=B.map (·.1)→(∀ x,x∈B→lk F x.1=some x.2)→A.map (qO F)=B
 | [],[],_,_=>rfl
 | [],_::_,h,_=>by simp at h
 | _::_,[],h,_=>by simp at h
 | a::A,b::B,h,hl=>by
  simp only [List.map_cons,List.cons.injEq] at h ⊢
  refine ⟨?_,wU h.2 fun x hx=>hl x (List.mem_cons_of_mem _ hx)⟩
  have:=hl b (by simp)
  unfold qO
  rw [h.1,this]
theorem lH {h F':Hp}:∀ {F:Hp},(∀ n,n∈F.map (·.1)→(lk F' n).isSome=true)→dN h F' F=h
 | [],_=>rfl
 | (n,o)::F,hs=>by
  simp only [dN]
  rw [if_pos (hs n (by simp)),lH fun m hm=>hs m (List.mem_cons_of_mem _ hm)]
theorem sI {pre F F':Hp}(he:F.map (·.1)=F'.map (·.1))(hn:((pre++F).map (·.1)).Nodup):dM (dN (pre++F) F' F) F'=pre++F':=by
 have hn2:(F'.map (·.1)).Nodup:=by rw [← he];rw [List.map_append,List.nodup_append] at hn;exact hn.2.1
 rw [lH fun n h=>by rw [he] at h;obtain ⟨o,ho⟩:=ku h;rw [ho];rfl]
 rw [uA hn hn2 fun n h=>by rw [List.map_append,List.mem_append,he];exact .inr h,List.map_append,wU he (bK hn2)]
 congr 1
 conv=>rhs;rw [← List.map_id pre]
 refine List.map_congr_left fun x hx=> ?_
 have : lk F' x.1=none:=by
  cases hh:lk F' x.1 with
  | none=>rfl
  | some o=>
   rw [List.map_append,List.nodup_append] at hn
   have h1:x.1∈F'.map (·.1):=by
    have:∀ {h:Hp} {n:Nat} {o:Ob},lk h n=some o→n∈h.map (·.1):=by
     intro h
     induction h with
     | nil=>intro n o h;simp [bA] at h
     | cons y h ih=>
      intro n o hl
      rw [ag] at hl
      split at hl
      ·rename_i e;subst e;simp
      ·exact List.mem_cons_of_mem _ (ih hl)
    exact this hh
   exact absurd rfl (hn.2.2 x.1 (List.mem_map.2 ⟨x,hx,rfl⟩) x.1 (by rw [he];exact h1))
 unfold qO
 rw [this];rfl
theorem uB {n:Nat}{a b:Ob}{F F':Hp}(he:F.map (·.1)=F'.map (·.1))(hn:(((n,a)::F).map (·.1)).Nodup):dM (dN ((n,a)::F) ((n,b)::F') F) F'=(n,a)::F':=by
 have h1:=sI (pre:=[(n,a)]) he hn
 rw [lH fun m hm=>by rw [he] at hm;obtain ⟨o,ho⟩:=ku hm;rw [ho];rfl] at h1
 rw [lH fun m hm=>by
  rw [he] at hm
  obtain ⟨o,ho⟩:=ku hm
  rw [ag]
  split
  ·rfl
  ·rw [ho];rfl]
 exact h1
theorem o6 {F H:Hp}{n:Nat}{o:Ob}(hn:lk F n=none)(h:HSub F H):HSub F ((n,o)::H):=fun m ob hm=>by
 rw [ag,if_neg fun e=>by rw [e,hn] at hm;cases hm]
 exact h m ob hm
theorem p0 {h:Hp}{n:Nat}{o:Ob}(hl:lk h n=some o):n∈h.map (·.1):=by
 induction h with
 | nil=>simp [bA] at hl
 | cons y h ih=>
  rw [ag] at hl
  split at hl
  ·rename_i e;subst e;simp
  ·exact List.mem_cons_of_mem _ (ih hl)
theorem nZ {h:Hp}{n:Nat}(hn:n∉h.map (·.1)):lk h n=none:=by
 cases hh:lk h n with
 | none=>rfl
 | some o=>exact absurd (p0 hh) hn
theorem iA {h:Hp}{n:Nat}(hn:lk h n=none):n∉h.map (·.1):=fun hm=>by
 obtain ⟨o,ho⟩:=ku hm
 rw [hn] at ho;cases ho
theorem vu {H:Hp}{n:Nat}{o:Ob}(hn:lk H n=none)(h:(H.map (·.1)).Nodup):(((n,o)::H).map (·.1)).Nodup:=by
 rw [List.map_cons,List.nodup_cons]
 exact ⟨iA hn,h⟩
theorem bU {H:Hp}{n:Nat}{o:Ob}{q:Nat→Bool}(h1:q n=true)(h2:o.ok q=true)(h:H.ok q=true):Hp.ok q ((n,o)::H)=true:=by
 simp only [Hp.ok,List.all_cons,Bool.and_eq_true] at h ⊢
 exact ⟨⟨h1,h2⟩,h⟩
theorem bS.trim {p:Nat→Prop}{μ:Nat→Nm}{M:Mem}{w:World}{m:Nm}{e sz len:Nat}{cs:List SV}(h:bS p μ M w m (.arr e sz len cs)){n:Nat}(hn:n≤len):bS p μ M w m (.arr e sz n (cs.take (n*sz))):=by
 rcases h with ⟨h1,h2,h3⟩ | ⟨h0,vs,hb,h1,h2,h3,h4,h5⟩
 ·subst h2;subst h3
  exact .inl ⟨h1,by omega,by simp⟩
 ·have hle:n*sz≤len*sz:=Nat.mul_le_mul_right sz hn
  refine .inr ⟨h0,vs,hb,?_,by omega,h3,h4,?_⟩
  ·rw [List.length_take,h1,Nat.min_eq_left hle]
  ·have:=h5.take (n*sz)
   rwa [List.take_take,Nat.min_eq_left hle] at this
theorem SW.trim {P:Program}{N k0:Nat}{s:cG}{st:St}{Q:Exit→St→Prop}{n e sz len:Nat}{cs:List SV}(i:Nat)(hl:lk st.hp n=some (.arr e sz len cs))(hi:i≤len)
  (h:SW P N k0 s ⟨st.env,iM st.hp n (.arr e sz i (cs.take (i*sz))),st.k⟩ Q):SW P N k0 s st Q:=by
 refine fun cc hc rd hrf bT M0 w0 c0 a w eE=>h cc hc rd hrf bT M0 w0 c0 a w ?_
 obtain ⟨hk0,hdf,hsz,μ,M,f_,hS,hE⟩:=eE
 refine ⟨hk0,hdf,hsz,μ,M,f_,⟨hS.mem,fun m ob hm=> ?_,fun m m' h1 h2=>hS.inj m m' ?_ ?_⟩,?_⟩
 ·rw [oJ] at hm
  split at hm
  ·rename_i e;subst e
   injection hm with hm;subst hm
   obtain ⟨a1,a2,a3⟩:=hS.obs _ _ hl
   exact ⟨a1,a2.trim hi,a3⟩
  ·exact hS.obs m ob hm
 ·rw [oJ] at h1
  split at h1
  ·rename_i e;subst e;rw [hl];simp
  ·exact h1
 ·rw [oJ] at h2
  split at h2
  ·rename_i e;subst e;rw [hl];simp
  ·exact h2
 ·exact hE.vX fun m hm=>by
   rw [oJ] at hm
   split at hm
   ·rename_i e;subst e;rw [hl];simp
   ·exact hm
theorem Ce {P:Program}{op:Op}{neg:Bool}{kd:Nat}{x':X}(hc:cO P op=some (.ng neg kd x')):∃ b t x y t',op= .binOp b t x y t'∧isEq b=true∧dG b=neg∧v_ P t y=some kd∧cX x=some x':=by
 cases op <;> simp only [cO] at hc <;> try (cases hc;done)
 case binOp b t x y t'=>
  refine ⟨b,t,x,y,t',rfl,?_⟩
  by_cases hq:isEq b=true
  ·rw [if_pos hq] at hc
   split at hc
   ·repeat' (first | contradiction | (cases hc;done) | split at hc)
   ·repeat' (first | contradiction | (cases hc;done) | split at hc)
   ·repeat' (first | contradiction | (cases hc;done) | split at hc)
   ·repeat' (first | contradiction | (cases hc;done) | split at hc)
   ·split at hc <;> first | (cases hc;done) | skip
    rename_i h1 h2
    injection hc with hc
    injection hc with e1 e2 e3
    subst e2;subst e3
    exact ⟨hq,e1,h1,h2⟩
  ·rw [if_neg hq] at hc
   repeat' (first | contradiction | (cases hc;done) | split at hc)
 all_goals (repeat' (first | contradiction | (cases hc;done) | (obtain ⟨_,_,hh⟩:=Option.map_eq_some_iff.1 hc;cases hh;done) | split at hc))
theorem Ay {P:Program}{o:Oper}{E:Nat→Option SV}{H:Nat→Option Ob}{k:Nat}{neg:Bool}{x':X}{n:Nat}{cs:List DV}(hc:cO P o.op=some (.ng neg 3 x'))(hx:ev E x'=some (.d (.sl n cs))):
  l_ P o E H k 0 [] (fun v F'=>F'=[]∧(v= .d (.bool neg)∨(n=0∧v= .d (.bool !neg)))):=by
 obtain ⟨op,t,x,y,t',ho,hop,hneg,hy,hcx⟩:=Ce hc
 subst hneg
 refine ⟨aT,fun rd p μ M a w K QQ hnew hk hS hK=> ?_⟩
 obtain ⟨A,c,e1,e2,e3,e4⟩:=(by simpa [bH] using Rp.bN.1 (hk.get (by simp [ho,Op.operands]) hcx hx):∃ A cp,a.eval x= .slice A n cp∧n≤cp∧(n=0→cs=[])∧(0<n→∃ b q,A=some ⟨b,q,none⟩∧cq M b q cs))
 have hty:∃ e,P.underlying t=some (.slice e)∧a.eval y= .slice none 0 0:=by
  unfold v_ at hy
  split at hy <;> first | (cases hy;done) | skip
  all_goals first
   | (injection hy with hy;cases hy;done)
   | exact ⟨_,by assumption,rfl⟩
 obtain ⟨el,hty,hyv⟩:=hty
 have h0:∀ d,(Op.equalIn (d+1) t (a.eval x) (a.eval y)).run P w= .ok A.isNone w:=fun d=>by
  rw [e1,hyv];cases A <;> simp [Op.equalIn,run_underlying hty]
 have h1:=h0 9999
 clear h0
 have n5:eqGuard op t x y (a.eval x) (a.eval y)=Pure.pure ():=by rw [e1];simp [eqGuard_at_slice]
 have hb:(binOp op t (a.eval x) (a.eval y)).run P w= .ok (.bool (bif dG op then !A.isNone else A.isNone)) w:=by
  rw [e1,hyv] at h1 ⊢
  rcases kM hop with rfl | rfl <;> simp [binOp,Op.equal,Op.maxDepth,h1,dG]
 have hex:(execOp a.eval o).run P w= .ok (.value (.bool (bif dG op then !A.isNone else A.isNone))) w:=by
  simp only [execOp,ho,Sem.run_bind,n5,Sem.run_pure,Result.andThen_ok,hb]
 refine fE hex (hK (.d (.bool (bif dG op then !A.isNone else A.isNone))) [] _ μ M w ⟨rfl,?_⟩ (Rp.br.2 rfl) (hS.more fun _ h=> .inl h) (Ev.refl _ _ _ _ _ fun n h=>by simp [bA] at h))
 by_cases hn:n=0
 ·cases A <;> cases dG op <;> simp [hn]
 ·obtain ⟨b,q,rfl,_⟩:=e4 (by omega)
  left
  cases dG op <;> rfl
theorem dX.HY {P:Program}{N k0:Nat}{st:St}{K:St→Prop}{si:SI}{r:List SI}{F:Hp}{nk:Nat}{Q:SV→Hp→Prop}(hg:si.g=none)(hq:∀ o:Oper,cO P o.op=some si.op→l_ P o (fun t=>st.env.lookup t) (lk st.hp) st.k nk F Q)
  (hro:∀ v F',Q v F'→F'=F) (h:∀ v F',Q v F'→dX P N k0 r (jO st si ⟨v,F,F',nk,True⟩) K):dX P N k0 (si::r) st K:=by
 refine dX.cons fun ops o hc hN rd bT M0 w0 c0 a w eE i ho Q' KK B8=> ?_
 obtain ⟨g1,g2,g3⟩:=fK hc
 have hgn:o.guard=none:=by
  rcases g3 with ⟨h,_⟩ | ⟨j,w,t,h,_,h'⟩
  ·exact h
  ·rw [hg] at h';cases h'
 unfold wpOpIn
 simp only [ho,Region.wanted,hgn,if_true]
 exact (gl.step g2 (fun d hd=>hN d (by rw [g2];exact hd)) (hq o g1) (fun v F' hQ hr=>hro v F' hQ) eE fun v F' hQ a' w' hSt'=>B8 _ a' w' (h v F' hQ) hSt')
theorem SW.HZ {P:Program}{N k0:Nat}{st:St}{Q:Exit→St→Prop}{d s t n:Nat}{cs:List DV}{neg:Bool}{bs:List Nat}(hl:st.env.lookup s=some (.d (.sl n cs)))
  (h1:Q .normal ⟨(d,.d (.bool neg))::(t,.d (.sl n cs))::st.env,st.hp,st.k⟩) (h2:n=0→Q .normal ⟨(d,.d (.bool !neg))::(t,.d (.sl n cs))::st.env,st.hp,st.k⟩):
  SW P N k0 (.eN [⟨some t,.mv (.t s),none⟩,⟨some d,.ng neg 3 (.t t),none⟩] bs false) st Q:=by
 refine SW.IC (dX.one (dw:=[]) (c2:=[]) (e:=⟨.d (.sl n cs),[],[],0,True⟩) (by simp only [eX,ek,cQ,ev,hl]) trivial ?_)
 refine dX.HY rfl (fun o hc=>Ay (n:=n) (cs:=cs) hc (by simp [jO,ev])) (fun v F' h=>h.1) fun v F' hv=>dX.nil ?_
 obtain ⟨rfl,rfl | ⟨h0,rfl⟩⟩:=hv
 ·exact h1
 ·exact h2 h0
theorem SB.same {P:Program}{f:FuncId}{args:List SV}{F:Hp}{k nk:Nat}{v:SV}(h:SB P f args F k nk fun r F'=>r=v∧F'=F)(j_:F.ok (fun m=>(lk F m).isSome)=true)(ha:SV.aI (fun m=>(lk F m).isSome) args=true)(hv:∀ q,v.ok q=true):bp P f args F k nk v F:=by
 unfold bp
 refine h.here (fun m=>(lk F m).isSome) (fun m h e=>by rw [e] at h;cases h) ha j_ ?_
 rintro x F' ⟨rfl,rfl⟩ _ _
 exact ⟨hv _,Hp.lF (fun m hm=>by rw [hm];rfl) j_⟩
end
section
variable {P:Program}
theorem dX.H6 {N k0:Nat}{st:St}{K:St→Prop}{si:SI}{r:List SI}{t:Nat}{b:Bool}{F:Hp}{nk:Nat}{Q:SV→Hp→Prop}(hg:si.g=some (t,b))(IZ:st.env.lookup t=some (.d (.bool b)))(hq:∀ o:Oper,cO P o.op=some si.op→l_ P o (fun t=>st.env.lookup t) (lk st.hp) st.k nk F Q)
  (hro:bZ si.op=false) (h:∀ v F',Q v F'→dX P N k0 r (jO st si ⟨v,F,F',nk,True⟩) K):dX P N k0 (si::r) st K:=by
 refine dX.cons fun ops o hc hN rd bT M0 w0 c0 a w eE i ho Q' KK B8=> ?_
 obtain ⟨g1,g2,g3⟩:=fK hc
 obtain ⟨hk0,hdf,hsz,μ,M,f_,hS,hE⟩:=eE
 have eE:gl N bT M0 w0 c0 k0 st a w:=⟨hk0,hdf,hsz,μ,M,f_,hS,hE⟩
 have hw:Region.wanted o (yielded ops a.tmps)=true:=by
  rcases g3 with ⟨_,h'⟩ | ⟨j,w,t',hg',hd,h'⟩
  ·rw [hg] at h';cases h'
  ·rw [hg] at h'
   injection h' with h'
   injection h' with e1 e2
   subst e1;subst e2
   have hv:=Rp.br.1 (f_ t _ IZ)
   simp only [Region.wanted,hg',gq hd hv]
   simp
 unfold wpOpIn
 simp only [ho,hw,if_true]
 exact (gl.step g2 (fun d hd=>hN d (by rw [g2];exact hd)) (hq o g1) (fun v F' _ hr=>by rw [hro] at hr;cases hr) eE fun v F' hQ a' w' hSt'=>B8 _ a' w' (h v F' hQ) hSt')
theorem dX.yH {N k0:Nat}{st:St}{K:St→Prop}{d:Option Nat}{r:List SI}{f:X}{args:List X}{t:Nat}{b:Bool}{nl:Nat}{as:List SV}{F:Hp}{nk:Nat}{Q:SV→Hp→Prop}(IZ:st.env.lookup t=some (.d (.bool b)))
  (h1:ev (fun t=>st.env.lookup t) f=some (.yl nl)) (h2:qu (fun t=>st.env.lookup t) args=some as) (hF:lk F nl≠none) (HX:SY P nl as F st.k nk Q) (hsub:HSub F st.hp)
  (h:∀ v F',Q v F'→dX P N k0 r (jO st ⟨d,.call f args,some (t,b)⟩ ⟨v,F,F',nk,True⟩) K):dX P N k0 (⟨d,.call f args,some (t,b)⟩::r) st K:=
 dX.H6 rfl IZ (fun o hc=>wR hc h1 h2 hF HX hsub) rfl h
theorem gl.vv {N k0:Nat}{st:St}{bT:Nat→Nm}{M0:Mem}{w0:World}{c0:Nat→Option Ob}{a:Act}{w:World}(x ty:Nat)(e sz:Nat)(ht:lk st.hp x=some (.box ty [.d .ay]))(h:gl N bT M0 w0 c0 k0 st a w):
    gl N bT M0 w0 c0 k0 ⟨st.env,(x,.box ty [.gs st.k 0])::(st.k,.arr e sz 0 [])::st.hp,st.k+1⟩ a w:=by
  obtain ⟨hk0,hdf,hsz,μ,M,f_,hS,hE⟩:=h
  have hmu:=rE (μ:=μ) (m:=⟨0,0,false⟩) (p:=(· <st.k)) (k:=st.k) (Nat.lt_irrefl _)
  have hup:∀ n,n<st.k→n<st.k+1:=fun n h=>by omega
  have hlt:∀ n ob,lk st.hp n=some ob→n<st.k:=fun n ob h=>(hS.obs n ob h).1
  have hxk:=hlt x _ ht
  have hne:∀ n,n≠st.k→lk ((x,.box ty [.gs st.k 0])::(st.k,.arr e sz 0 [])::st.hp) n≠none→lk st.hp n≠none:=fun n h1 h2=>by
    rw [ag] at h2
    split at h2
    · rename_i e1;rw [e1,ht];simp
    · rw [ag,if_neg h1] at h2;exact h2
  refine ⟨by show k0≤st.k+1;omega,hdf,hsz,vY μ st.k ⟨0,0,false⟩,M,fun u s hs=> ?_,⟨hS.mem,fun n ob hn=> ?_,fun n m hn hm ln lm e=> ?_⟩,⟨fun n hn=> ?_,hE.mem,hE.frame,hE.size,fun n hn=> ?_,hE.os,hE.tape,hE.output⟩⟩
  · exact (f_ u s hs).more hup hmu (Mem.le_refl M)
  · rw [ag] at hn
    split at hn
    · rename_i e1
      subst e1
      injection hn with hn
      subst hn
      obtain ⟨a1,⟨hl,vs,hb,hr⟩,a3⟩:=hS.obs n _ ht
      rw [hmu n a1]
      refine ⟨hup n a1,⟨hl,vs,hb,?_⟩,a3⟩
      obtain ⟨v,vs',e,h1,h2⟩:=aM.aC.1 hr
      rw [e]
      refine aM.aC.2 ⟨v,vs',rfl,?_,aM.aN.2 (aM.aN.1 h2)⟩
      have h1:=h1.rep
      simp only [bY,bH] at h1
      intro ν fV
      simp only [bY]
      rw [fV st.k (Nat.lt_succ_self _),bf]
      exact .inr ⟨rfl,trivial,none,h1⟩
    · rw [ag] at hn
      split at hn
      · rename_i e1
        subst e1
        injection hn with hn
        subst hn
        rw [bf]
        exact ⟨Nat.lt_succ_self _,.inl ⟨rfl,rfl,rfl⟩,fun h=>by cases h⟩
      · obtain ⟨a1,a2,a3⟩:=hS.obs n ob hn
        rw [hmu n a1]
        exact ⟨hup n a1,a2.more hup hmu (Mem.le_refl M) fun _=>rfl,a3⟩
  · by_cases e1:n=st.k
    · subst e1;rw [bf] at ln;cases ln
    · by_cases e2:m=st.k
      · subst e2;rw [bf] at lm;cases lm
      · have hn:=hne n e1 hn
        have hm:=hne m e2 hm
        obtain ⟨o1,ho1⟩:=Option.ne_none_iff_exists'.1 hn
        obtain ⟨o2,ho2⟩:=Option.ne_none_iff_exists'.1 hm
        rw [hmu n (hlt n o1 ho1)] at e ln
        rw [hmu m (hlt m o2 ho2)] at e lm
        exact hS.inj n m hn hm ln lm e
  · simp only at hn
    by_cases e1:n=st.k
    · subst e1;omega
    · rw [dQ _ _ _ e1];exact hE.old n (by omega)
  · by_cases e1:n=st.k
    · subst e1
      rw [bf]
      exact .inl ⟨⟨by omega,Nat.lt_succ_self _⟩,fun h=>by cases h⟩
    · have hn:=hne n e1 hn
      obtain ⟨o1,ho1⟩:=Option.ne_none_iff_exists'.1 hn
      rw [hmu n (hlt n o1 ho1)]
      rcases hE.names n hn with ⟨b1,b2⟩ | ⟨b1,b2⟩
      · exact .inl ⟨⟨b1.1,by have:=b1.2;show n<st.k+1;omega⟩,b2⟩
      · refine .inr ⟨fun h=> ?_,b2⟩
        have:n<st.k:=hlt n o1 ho1
        exact b1 ⟨h.1,this⟩
theorem SW.vv {N k0:Nat}{st:St}{Q:Exit→St→Prop}{s:cG}(x ty:Nat)(e sz:Nat)(ht:lk st.hp x=some (.box ty [.d .ay]))(h:SW P N k0 s ⟨st.env,(x,.box ty [.gs st.k 0])::(st.k,.arr e sz 0 [])::st.hp,st.k+1⟩ Q):SW P N k0 s st Q:=
 fun c hc rd hrf bT M0 w0 c0 a w eE=>h c hc rd hrf bT M0 w0 c0 a w (eE.vv x ty e sz ht)
end
section
structure wV {α σ:Type}(P:Program)(y:Nat)(ar:α→List SV)(bV:Nat)(Fh:σ→Hp)(Step:σ→α→σ→Prop)(go:σ→Bool)(s0:σ)(B:Nat):Prop where
 Cd:∀ s,lk (Fh s) y≠none
 nd:∀ s x,x∈Fh s→lk (Fh s) x.1=some x.2
 call:∀ s xs x k,mw Step s0 xs s→xs.length<B→(Fh s).ok (fun n=>decide (n<k))=true→go s=true→SY P y (ar x) (Fh s) k bV fun r F'=>∃ s',Step s x s'∧r= .d (.bool (go s'))∧F'=Fh s'∧
  (Fh s').ok (fun n=>decide (n<k+bV))=true∧∀ n,lk (Fh s') n≠none→lk (Fh s) n≠none∨(k≤n∧n<k+bV)
end
section
variable {P:Program}
section
variable {σ:Type} {G:Hp} {Fh:σ→Hp} {s:σ} {kk:Nat}
end
section
variable {N k0:Nat} {K:St→Prop}
end
end
section
def Ob.gu (n len:Nat)(ds:List DV):Ob→Ob
 | .box t cs=> .box t (SV.gV n len ds cs)
 | .map es c=> .map (es.map fun e=>(e.1,e.2.1,e.2.2.gu n len ds)) c
 | o=>o
theorem fO.gu {p:Nat→Prop}{μ:Nat→Nm}{M:Mem}{n len:Nat}{ds:List DV}(hg:∀ v,Rp p μ M (.gs n len) v→Rp p μ M (.d (.sl len ds)) v):∀ (r:List (Nat×SV×SV)) (es:List MapEntry),fO p μ M r es→fO p μ M (r.map fun e=>(e.1,e.2.1,e.2.2.gu n len ds)) es
 | [],es,h=>h
 | (b,k,v)::r,es,⟨e,es',h1,h2,h3,h4,h5⟩=>⟨e,es',h1,h2,h3,SV.mO hg v _ h4,fO.gu hg r es' h5⟩
def sJ (n len:Nat)(ds:List DV)(h:Hp):Hp:=h.map fun x=>(x.1,x.2.gu n len ds)
theorem Ep (n len:Nat)(ds:List DV):∀ (h:Hp) (m:Nat),lk (sJ n len ds h) m=(lk h m).map (Ob.gu n len ds)
 | [],m=>rfl
 | (q,o)::h,m=>by
  have ih:=Ep n len ds h m
  unfold sJ at ih ⊢
  rw [List.map_cons,ag,ag]
  split
  ·rfl
  ·exact ih
abbrev Cf (φ:Ob→Ob)(n len:Nat)(ds:List DV):Prop:=∀ (p:Nat→Prop) (μ:Nat→Nm) (M:Mem) (w:World),(∀ v,Rp p μ M (.gs n len) v→Rp p μ M (.d (.sl len ds)) v)→∀ m o,bS p μ M w m o→bS p μ M w m (φ o)
abbrev wW (φ:Ob→Ob)(h:Hp):Hp:=h.map fun x=>(x.1,φ x.2)
theorem mz (φ:Ob→Ob):∀ (h:Hp) (m:Nat),lk (wW φ h) m=(lk h m).map φ
 | [],m=>rfl
 | (q,o)::h,m=>by
  have ih:=mz φ h m
  unfold wW at ih ⊢
  rw [List.map_cons,ag,ag]
  split
  ·rfl
  ·exact ih
theorem bD.H8 {p:Nat→Prop}{μ:Nat→Nm}{M:Mem}{w:World}{h:Hp}{n len:Nat}{ds:List DV}{φ:Ob→Ob}(hφ:Cf φ n len ds)(hS:bD p μ M (lk h) w)(hg:∀ v,Rp p μ M (.gs n len) v→Rp p μ M (.d (.sl len ds)) v):bD p μ M (lk (wW φ h)) w:=by
 refine ⟨⟨hS.mem.cell,hS.mem.jK⟩,fun m ob hm=> ?_,fun m m' hm hm'=> ?_⟩
 ·rw [mz] at hm
  obtain ⟨o,ho,rfl⟩:=Option.map_eq_some_iff.1 hm
  obtain ⟨a1,a2,a3⟩:=hS.obs m o ho
  exact ⟨a1,hφ p μ M w hg _ _ a2,a3⟩
 ·have key:∀ m,lk (wW φ h) m≠none→lk h m≠none:=fun m hm hn=>hm (by rw [mz,hn];rfl)
  exact hS.inj m m' (key m hm) (key m' hm')
theorem GC (n len:Nat)(ds:List DV):Cf (Ob.gu n len ds) n len ds:=fun p μ M w hg m o a2=>by
 cases o with
 | box t cs=>
  simp only [bS,Ob.gu] at a2 ⊢
  obtain ⟨b1,vs,b2,b3⟩:=a2
  exact ⟨b1,vs,b2,SV.oM hg cs _ b3⟩
 | map es c=>
  simp only [bS,Ob.gu] at a2 ⊢
  obtain ⟨b1,vs,b2,b3⟩:=a2
  exact ⟨b1,vs,b2,fO.gu hg es _ b3⟩
 | _=>exact a2
section
variable {P:Program} {N k0:Nat} {st:St} {Q:Exit→St→Prop}
theorem gl.Er {φ:Ob→Ob}{bT:Nat→Nm}{M0:Mem}{w0:World}{c0:Nat→Option Ob}{a:Act}{w:World}(n:Nat){e sz len:Nat}{cs:List SV}{ds:List DV}(hφ:Cf φ n len ds)(hn:lk st.hp n=some (.arr e sz len cs))(hcs:cs=ds.map .d)
    (h:gl N bT M0 w0 c0 k0 st a w):gl N bT M0 w0 c0 k0 ⟨kU n len ds st.env,wW φ (dx st.hp n),st.k⟩ a w:=by
  subst hcs
  obtain ⟨hk0,hdf,hsz,μ,M,f_,hS,hE⟩:=h
  obtain ⟨hpn,aZ,hMn⟩:=hS.obs n _ hn
  rcases aZ with ⟨hdead,hl0,hds⟩ | ⟨hlive,vs,hb,DJ,hl2,Hg,hl4,hr⟩
  · have hd0:ds=[]:=by simpa using hds
    subst hd0;subst hl0
    have hg:∀ v,Rp (· <st.k) μ M (.gs n 0) v→Rp (· <st.k) μ M (.d (.sl 0 [])) v:=fun v hv=>by
      refine Rp.bN.2 ?_
      simp only [bH]
      obtain ⟨h,_⟩ | ⟨_,_,A,e1⟩:=hv.iZ
      · rw [hdead] at h;cases h
      · exact ⟨A,0,e1,Nat.le_refl _,fun _=>trivial,fun h=>absurd h (Nat.lt_irrefl _)⟩
    have hsub:∀ m ob,lk (dx st.hp n) m=some ob→lk st.hp m=some ob:=fun m ob hm=>by
      rw [eM] at hm
      split at hm
      · cases hm
      · exact hm
    refine ⟨hk0,hdf,hsz,μ,M,fun t s hs=> ?_,(hS.sub hsub).H8 hφ hg,hE.vX fun m hm=> ?_⟩
    · rw [jr] at hs
      obtain ⟨s',hs',rfl⟩:=Option.map_eq_some_iff.1 hs
      exact SV.mO hg s' _ (f_ t s' hs')
    · obtain ⟨o1,ho1⟩:=Option.ne_none_iff_exists'.1 hm
      rw [mz] at ho1
      obtain ⟨o2,ho2,_⟩:=Option.map_eq_some_iff.1 ho1
      rw [hsub m o2 ho2];simp
  have hMn:=hMn hlive
  have hlen:ds.length=len*sz:=by simpa using DJ
  let M':Mem:=fun b o=>if b=(μ n).blk then (if o<len*sz then vs[o]? else none) else M b o
  have hne:∀ b,b≠(μ n).blk→∀ o,M' b o=M b o:=fun b hb o=>by simp [M',hb]
  have hle:Mem.le M M':=fun b o v hv=>by
    have:b≠(μ n).blk:=fun e=>by rw [e,hMn] at hv;cases hv
    rw [hne b this];exact hv
  have hoth:∀ m,lk st.hp m≠none→m≠n→(μ m).live=true→(μ m).blk≠(μ n).blk:=fun m hm hmn lm e=>hmn (hS.inj m n hm (by rw [hn];simp) lm hlive e)
  have hsub:∀ m ob,lk (dx st.hp n) m=some ob→lk st.hp m=some ob∧m≠n:=fun m ob hm=>by
    rw [eM] at hm
    split at hm
    · cases hm
    · rename_i e;exact ⟨hm,e⟩
  have hg:∀ v,Rp (· <st.k) μ M' (.gs n len) v→Rp (· <st.k) μ M' (.d (.sl len ds)) v:=fun v hv=>by
    obtain ⟨_,e1⟩ | ⟨h,_⟩:=hv.iZ
    rotate_left
    · rw [hlive] at h;cases h
    refine Rp.bN.2 ?_
    simp only [bH]
    refine ⟨_,_,e1,hl2,fun h0=> ?_,fun _=>⟨_,_,rfl,cq.mk fun i c hi=> ?_⟩⟩
    · subst h0
      simp at hlen
      exact hlen
    · obtain ⟨u,hu,hru⟩:=hr.Fo hi
      have hil:i<len*sz:=by rw [← hlen];exact (List.getElem?_eq_some_iff.1 hi).1
      refine ⟨u,?_,bH.mono hle _ _ hru⟩
      rw [List.getElem?_take_of_lt hil] at hu
      simp only [M',if_true,Nat.zero_add,hil]
      simpa using hu
  have hS2:bD (· <st.k) μ M' (lk (dx st.hp n)) w:=by
    refine ⟨⟨fun b o v hv=> ?_,hS.mem.jK.le hle⟩,fun m ob hm=> ?_,fun m m' hm hm' lm lm' e=> ?_⟩
    · by_cases hbn:b=(μ n).blk
      · subst hbn
        simp only [M',if_true] at hv
        split at hv
        · rw [cell_of hb];exact hv
        · cases hv
      · rw [hne b hbn] at hv
        exact hS.mem b o v hv
    · obtain ⟨hm1,hmn⟩:=hsub m ob hm
      obtain ⟨a1,a2,a3⟩:=hS.obs m ob hm1
      refine ⟨a1,a2.more (fun _ h=>h) (fun _ _=>rfl) hle fun _=>rfl,fun lm o=> ?_⟩
      rw [hne _ (hoth m (by rw [hm1];simp) hmn lm)]
      exact a3 lm o
    · obtain ⟨o1,ho1⟩:=Option.ne_none_iff_exists'.1 hm
      obtain ⟨o2,ho2⟩:=Option.ne_none_iff_exists'.1 hm'
      exact hS.inj m m' (by rw [(hsub m o1 ho1).1];simp) (by rw [(hsub m' o2 ho2).1];simp) lm lm' e
  refine ⟨hk0,hdf,hsz,μ,M',fun t s hs=> ?_,hS2.H8 hφ hg,⟨hE.old,Mem.le_trans hE.mem hle,fun b hb0 hf=> ?_,hE.size,fun m hm=> ?_,hE.os,hE.tape,hE.output⟩⟩
  · rw [jr] at hs
    obtain ⟨s',hs',rfl⟩:=Option.map_eq_some_iff.1 hs
    exact SV.mO hg s' _ ((f_ t s' hs').more (fun _ h=>h) (fun _ _=>rfl) hle)
  · have hbn:b≠(μ n).blk:=fun e=>by
      rcases hE.names n (by rw [hn];simp) with ⟨_,hh⟩ | ⟨h,h'⟩
      · rcases hh hlive with h | ⟨m,hm,lm,e'⟩
        · omega
        · exact hf m hm lm (e'.trans e.symm)
      · rw [hE.old n h] at e hlive
        exact hf n h' hlive e.symm
    obtain ⟨f1,f2⟩:=hE.frame b hb0 hf
    exact ⟨f1,fun o=>by rw [hne b hbn];exact f2 o⟩
  · obtain ⟨o1,ho1⟩:=Option.ne_none_iff_exists'.1 hm
    rw [mz] at ho1
    obtain ⟨o2,ho2,_⟩:=Option.map_eq_some_iff.1 ho1
    exact hE.names m (by rw [(hsub m o2 ho2).1];simp)
theorem gl.jf {bT:Nat→Nm}{M0:Mem}{w0:World}{c0:Nat→Option Ob}{a:Act}{w:World}(n:Nat){e sz len:Nat}{cs:List SV}{ds:List DV}(hn:lk st.hp n=some (.arr e sz len cs))(hcs:cs=ds.map .d)
  (h:gl N bT M0 w0 c0 k0 st a w):gl N bT M0 w0 c0 k0 ⟨kU n len ds st.env,sJ n len ds (dx st.hp n),st.k⟩ a w:=h.Er n (GC n len ds) hn hcs
theorem SW.jf {s:cG}(n:Nat){e sz len:Nat}{cs:List SV}(ds:List DV)(hn:lk st.hp n=some (.arr e sz len cs))(hcs:cs=ds.map .d)(h:SW P N k0 s ⟨kU n len ds st.env,sJ n len ds (dx st.hp n),st.k⟩ Q):SW P N k0 s st Q:=
 fun c hc rd hrf bT M0 w0 c0 a w eE=>h c hc rd hrf bT M0 w0 c0 a w (eE.jf n hn hcs)
end
end
section
variable {P:Program}
theorem gl.qX {N k0:Nat}{st:St}{bT:Nat→Nm}{M0:Mem}{w0:World}{c0:Nat→Option Ob}{a:Act}{w:World}(x ty i:Nat)(e sz:Nat){cs:List SV}(ht:lk st.hp x=some (.box ty cs))(hi:cs[i]? =some (.d .ay))(h:gl N bT M0 w0 c0 k0 st a w):
    gl N bT M0 w0 c0 k0 ⟨st.env,(x,.box ty (cs.set i (.gs st.k 0)))::(st.k,.arr e sz 0 [])::st.hp,st.k+1⟩ a w:=by
  obtain ⟨hk0,hdf,hsz,μ,M,f_,hS,hE⟩:=h
  have hmu:=rE (μ:=μ) (m:=⟨0,0,false⟩) (p:=(· <st.k)) (k:=st.k) (Nat.lt_irrefl _)
  have hup:∀ n,n<st.k→n<st.k+1:=fun n h=>by omega
  have hlt:∀ n ob,lk st.hp n=some ob→n<st.k:=fun n ob h=>(hS.obs n ob h).1
  have hxk:=hlt x _ ht
  have hne:∀ n,n≠st.k→lk ((x,.box ty (cs.set i (.gs st.k 0)))::(st.k,.arr e sz 0 [])::st.hp) n≠none→lk st.hp n≠none:=fun n h1 h2=>by
    rw [ag] at h2
    split at h2
    · rename_i e1;rw [e1,ht];simp
    · rw [ag,if_neg h1] at h2;exact h2
  refine ⟨by show k0≤st.k+1;omega,hdf,hsz,vY μ st.k ⟨0,0,false⟩,M,fun u s hs=> ?_,⟨hS.mem,fun n ob hn=> ?_,fun n m hn hm ln lm e=> ?_⟩,⟨fun n hn=> ?_,hE.mem,hE.frame,hE.size,fun n hn=> ?_,hE.os,hE.tape,hE.output⟩⟩
  · exact (f_ u s hs).more hup hmu (Mem.le_refl M)
  · rw [ag] at hn
    split at hn
    · rename_i e1
      subst e1
      injection hn with hn
      subst hn
      obtain ⟨a1,⟨hl,vs,hb,hr⟩,a3⟩:=hS.obs n _ ht
      rw [hmu n a1]
      refine ⟨hup n a1,⟨hl,vs,hb,?_⟩,a3⟩
      have hr:=hr.more hup hmu (Mem.le_refl M)
      obtain ⟨v,hv,h1⟩:=hr.get hi
      have h1:=h1.rep
      simp only [bY,bH] at h1
      have hg:Rp (· <st.k+1) (vY μ st.k ⟨0,0,false⟩) M (.gs st.k 0) v:=by
        intro ν fV
        simp only [bY]
        rw [fV st.k (Nat.lt_succ_self _),bf]
        exact .inr ⟨rfl,trivial,none,h1⟩
      have h2:=hr.set i hg
      obtain ⟨hiv,ev⟩:=List.getElem?_eq_some_iff.1 hv
      rwa [← ev,List.set_getElem_self hiv] at h2
    · rw [ag] at hn
      split at hn
      · rename_i e1
        subst e1
        injection hn with hn
        subst hn
        rw [bf]
        exact ⟨Nat.lt_succ_self _,.inl ⟨rfl,rfl,rfl⟩,fun h=>by cases h⟩
      · obtain ⟨a1,a2,a3⟩:=hS.obs n ob hn
        rw [hmu n a1]
        exact ⟨hup n a1,a2.more hup hmu (Mem.le_refl M) fun _=>rfl,a3⟩
  · by_cases e1:n=st.k
    · subst e1;rw [bf] at ln;cases ln
    · by_cases e2:m=st.k
      · subst e2;rw [bf] at lm;cases lm
      · have hn:=hne n e1 hn
        have hm:=hne m e2 hm
        obtain ⟨o1,ho1⟩:=Option.ne_none_iff_exists'.1 hn
        obtain ⟨o2,ho2⟩:=Option.ne_none_iff_exists'.1 hm
        rw [hmu n (hlt n o1 ho1)] at e ln
        rw [hmu m (hlt m o2 ho2)] at e lm
        exact hS.inj n m hn hm ln lm e
  · simp only at hn
    by_cases e1:n=st.k
    · subst e1;omega
    · rw [dQ _ _ _ e1];exact hE.old n (by omega)
  · by_cases e1:n=st.k
    · subst e1
      rw [bf]
      exact .inl ⟨⟨by omega,Nat.lt_succ_self _⟩,fun h=>by cases h⟩
    · have hn:=hne n e1 hn
      obtain ⟨o1,ho1⟩:=Option.ne_none_iff_exists'.1 hn
      rw [hmu n (hlt n o1 ho1)]
      rcases hE.names n hn with ⟨b1,b2⟩ | ⟨b1,b2⟩
      · exact .inl ⟨⟨b1.1,by have:=b1.2;show n<st.k+1;omega⟩,b2⟩
      · refine .inr ⟨fun h=> ?_,b2⟩
        have:n<st.k:=hlt n o1 ho1
        exact b1 ⟨h.1,this⟩
theorem SW.qX {N k0:Nat}{st:St}{Q:Exit→St→Prop}{s:cG}(x ty i:Nat)(e sz:Nat){cs:List SV}(ht:lk st.hp x=some (.box ty cs))(hi:cs[i]? =some (.d .ay))(h:SW P N k0 s ⟨st.env,(x,.box ty (cs.set i (.gs st.k 0)))::(st.k,.arr e sz 0 [])::st.hp,st.k+1⟩ Q):SW P N k0 s st Q:=
 fun c hc rd hrf bT M0 w0 c0 a w eE=>h c hc rd hrf bT M0 w0 c0 a w (eE.qX x ty i e sz ht hi)
mutual
theorem SV.zM {n len:Nat}{ds:List DV}{q:Nat→Bool}(hq:q n=false):∀ (s:SV),s.ok q=true→s.gu n len ds=s
 | .gs m l,h=>by
  simp only [SV.gu]
  rw [if_neg]
  intro e
  subst e
  simp only [SV.ok] at h
  rw [hq] at h;cases h
 | .agg cs,h=>by simp only [SV.gu];rw [SV.gZ hq cs (by simpa only [SV.ok] using h)]
 | .cg cs,h=>by simp only [SV.gu];rw [SV.gZ hq cs (by simpa only [SV.ok] using h)]
 | .d _,_=>rfl
 | .ptr _ _,_=>rfl
 | .vp _ _,_=>rfl
 | .bs _ _ _,_=>rfl
 | .mp _,_=>rfl
 | .it _,_=>rfl
 | .fn _ _ _,_=>rfl
 | .yl _,_=>rfl
 | .any,_=>rfl
theorem SV.gZ {n len:Nat}{ds:List DV}{q:Nat→Bool}(hq:q n=false):∀ (s:List SV),SV.aI q s=true→SV.gV n len ds s=s
 | [],_=>rfl
 | c::cs,h=>by
  simp only [SV.aI,Bool.and_eq_true] at h
  simp only [SV.gV]
  rw [SV.zM hq c h.1,SV.gZ hq cs h.2]
end
theorem Cg {n len:Nat}{ds:List DV}{q:Nat→Bool}(hq:q n=false){es:List (Nat×SV×SV)}(h:(es.all fun e=>e.2.1.ok q && e.2.2.ok q)=true):es.map (fun e=>(e.1,e.2.1,e.2.2.gu n len ds))=es:=by
 conv=>rhs;rw [← List.map_id es]
 refine List.map_congr_left fun e he=> ?_
 have:=List.all_eq_true.1 h e he
 simp only [Bool.and_eq_true] at this
 rw [SV.zM hq _ this.2];rfl
section
variable {N k0:Nat} {Q:Exit→St→Prop}
theorem SW.H9 {s:cG}{st:St}(n:Nat){t:Nat}{cs cs':List SV}(hn:lk st.hp n=some (.box t cs))(hw:∀ (p:Nat→Prop) (μ:Nat→Nm) (M:Mem) (vs:List Value),aM p μ M cs vs→aM p μ M cs' vs)(h:Go.Sl.SW P N k0 s ⟨st.env,ia st.hp n (.box t cs'),st.k⟩ Q):Go.Sl.SW P N k0 s st Q:=by
 intro c hc rd hrf bT M0 w0 c0 a w eE
 refine h c hc rd hrf bT M0 w0 c0 a w ?_
 obtain ⟨hk0,hdf,hsz,μ,M,f_,hS,hE⟩:=eE
 have hlk:∀ m,lk (ia st.hp n (.box t cs')) m≠none→lk st.hp m≠none:=fun m hm=>by
  rw [qT] at hm
  by_cases e:m=n
  ·rw [e,hn];simp
  ·rwa [if_neg e] at hm
 refine ⟨hk0,hdf,hsz,μ,M,f_,⟨⟨hS.mem.cell,hS.mem.jK⟩,fun m ob hm=> ?_,fun m m' hm hm'=>hS.inj m m' (hlk m hm) (hlk m' hm')⟩,hE.vX hlk⟩
 rw [qT] at hm
 by_cases e:m=n
 ·rw [if_pos e] at hm
  injection hm with hm
  subst hm;subst e
  obtain ⟨a1,a2,a3⟩:=hS.obs _ _ hn
  refine ⟨a1,?_,a3⟩
  simp only [bS] at a2 ⊢
  obtain ⟨b1,vs,b2,b3⟩:=a2
  exact ⟨b1,vs,b2,hw _ _ _ _ b3⟩
 ·rw [if_neg e] at hm
  exact hS.obs m ob hm
end
end
end Go.Sl
