/-
 A region, piece by piece: plain operations at once, up to the next call; a call by its contract.
-/
import Derived.Test.YtefjaphfnkbbkaaU7
import Derived.Maps.RangeRun
import Derived.Test.YtefjaphfnkbbkaaU8
set_option linter.unusedSectionVars false
set_option linter.unusedVariables false
set_option linter.unusedSimpArgs false
namespace Go.Sl
section
variable {P:Program}
def RW (P:Program)(ck:List SI)(st:St)(K:St→List (Bool×List Nat)→Prop):Prop:=
 ∃ dw st' ob ts,runs P ck st dw=some (st',ob,ts)∧ob∧K st' ts
def fL:SO→Bool
 | .call .. =>true
 | _=>false
def uk:SO→Bool
 | .jL .. =>true
 | _=>false
def seg (P:Program):List SI→St→Option (List SI×St×Prop×List (Bool×List Nat))
  | [],st=>some ([],st,True,[])
  | si :: r,st=>match si.g with
    | none=>match fL si.op with
      | true=>some (si::r,st,True,[])
      | false=>match ek P st si.op [] with
        | some (e,_)=>match seg P r (jO st si e) with
          | some (rest,st',ob,ts)=>some (rest,st',e.ob∧ob,gd si e::ts)
          | none=>none
        | none=>none
    | some (t,w)=>match st.env.lookup t with
      | some (.d (.bool b))=>match b == w with
        | true=>match fL si.op with
          | true=>some (si::r,st,True,[])
          | false=>match ek P st si.op [] with
            | some (e,_)=>match seg P r (jO st si e) with
              | some (rest,st',ob,ts)=>some (rest,st',e.ob∧ob,gd si e::ts)
              | none=>none
            | none=>none
        | false=>match seg P r (jO st si ⟨.cg [],[],[],0,True⟩) with
          | some (rest,st',ob,ts)=>some (rest,st',ob,gd si ⟨.cg [],[],[],0,True⟩::ts)
          | none=>none
      | some (.cg [])=>match seg P r (jO st si ⟨.cg [],[],[],0,True⟩) with
          | some (rest,st',ob,ts)=>some (rest,st',ob,gd si ⟨.cg [],[],[],0,True⟩::ts)
          | none=>none
      | _=>none
theorem Aq {st:St}{so:SO}{e:j4}{c2:List CR}(hc:fL so=false)(h:ek P st so []=some (e,c2)):c2=[]∧(uk so=false→∀ dw,ek P st so dw=some (e,dw))∧(uk so=true→∀ dw,ek P st so (.gu::dw)=some (e,dw)):=by
 cases so <;> simp only [fL,Bool.true_eq_false] at hc <;> simp only [ek] at h <;> split at h <;> first | (cases h;done) | skip
 all_goals
  rename_i hs
  injection h with h
  injection h with h h'
  subst h;subst h'
  refine ⟨rfl,fun hb dw=> ?_,fun hb dw=> ?_⟩
  all_goals first
   | (simp [uk] at hb;done)
   | simp only [ek,hs]
theorem RW.nil {st:St}{K:St→List (Bool×List Nat)→Prop}(h:K st []):RW P [] st K:=⟨[],st,True,[],rfl,trivial,h⟩
theorem RW.cons {si:SI}{r:List SI}{st:St}{K:St→List (Bool×List Nat)→Prop}{e:j4}(h1:∀ dw,∃ c0,eX P st si c0=some (e,dw))(aZ:e.ob)(h:RW P r (jO st si e) fun st' ts=>K st' (gd si e::ts)):RW P (si::r) st K:=by
 obtain ⟨dw,st',ob,ts,hr,ho,hk⟩:=h
 obtain ⟨c0,hc0⟩:=h1 dw
 refine ⟨c0,st',e.ob∧ob,gd si e::ts,?_,⟨aZ,ho⟩,hk⟩
 simp only [runs,hc0,hr]
theorem wM {st:St}{so:SO}{e:j4}{c2:List CR}(hc:fL so=false)(h:ek P st so []=some (e,c2))(dw:List CR):∃ c0,ek P st so c0=some (e,dw):=by
 obtain ⟨_,h1,h2⟩:=Aq hc h
 cases hb:uk so with
 | false=>exact ⟨dw,h1 hb dw⟩
 | true=>exact ⟨.gu::dw,h2 hb dw⟩
theorem RW.call {d:Option Nat}{f:X}{args:List X}{g:Option (Nat×Bool)}{r:List SI}{st:St}{K:St→List (Bool×List Nat)→Prop}{fid:FuncId}{as first cap as':List SV}{F F':Hp}{v:SV}{nk:Nat}
  (hf:ev (fun t=>st.env.lookup t) f=some (.fn (.func fid) first cap)) (ha:qu (fun t=>st.env.lookup t) args=some as) (has:first++as++cap=as') (hc:bp P fid as' F st.k nk v F') (hs:HSub F st.hp)
  (hg:g=none∨∃ t w,g=some (t,w)∧st.env.lookup t=some (.d (.bool w)))
  (h:RW P r (jO st ⟨d,.call f args,g⟩ ⟨v,F,F',nk,True⟩) fun st' ts=>K st' (gd ⟨d,.call f args,g⟩ ⟨v,F,F',nk,True⟩::ts)):RW P (⟨d,.call f args,g⟩::r) st K:=by
 refine RW.cons (e:=⟨v,F,F',nk,bp P fid (first++as++cap) F st.k nk v F'∧HSub F st.hp⟩) (fun dw=>⟨.call F v F' nk::dw,?_⟩) ⟨by rw [has];exact hc,hs⟩ h
 rcases hg with rfl | ⟨t,w,rfl,hl⟩
 ·simp only [eX,ek,hf,ha]
 ·simp [eX,hl,ek,hf,ha]
theorem SW.IY {N k0:Nat}{st:St}{Q:Exit→St→Prop}{ck:List SI}{bs:List Nat}{draw:Bool}(hm:P.follows .mixedOrders=true)(h:RW P ck st fun st' ts=>(!draw || kQ bs ts)=true∧Q .normal st'):SW P N k0 (.eN ck bs draw) st Q:=by
 obtain ⟨dw,st',ob,ts,hr,ho,hn,hk⟩:=h
 exact SW.eN dw hm hr ho hn hk
theorem eP {st:St}{d:Option Nat}{op:SO}{g:Option (Nat×Bool)}{dw:List CR}{e:j4}{c2:List CR}(hg:g=none∨∃ t w,g=some (t,w)∧st.env.lookup t=some (.d (.bool w)))(h:ek P st op dw=some (e,c2)):eX P st ⟨d,op,g⟩ dw=some (e,c2):=by
 rcases hg with rfl | ⟨t,w,rfl,hl⟩
 ·simp only [eX,h]
 ·simp [eX,hl,h]
theorem RW.Gq {d:Nat}{op:SO}{g:Option (Nat×Bool)}{r:List SI}{K:St→List (Bool×List Nat)→Prop}{env:List (Nat×SV)}{hp F F':Hp}{k:Nat}{v:SV}{nk:Nat}{ob:Prop}
  (hr:bZ op=true) (hc:fL op=false) (hb:uk op=false) (hg:g=none∨∃ t w,g=some (t,w)∧env.lookup t=some (.d (.bool w))) (he:ek P ⟨env,hp,k⟩ op []=some (⟨v,F,F',nk,ob⟩,[])) (aZ:ob) (hk:nk=0)
  (h:RW P r ⟨(d,v)::env,hp,k⟩ fun st' ts=>K st' ((true,F.map (·.1)++F'.map (·.1))::ts)):RW P (⟨some d,op,g⟩::r) ⟨env,hp,k⟩ K:=by
 subst hk
 refine RW.cons (e:=⟨v,F,F',0,ob⟩) (fun dw=> ?_) aZ ?_
 ·obtain ⟨c0,h0⟩:=wM hc he dw
  exact ⟨c0,eP hg h0⟩
 ·simpa only [jO,gd,hr,cH,if_true,Nat.add_zero] using h
def oU:Option Nat→SV→List (Nat×SV)→List (Nat×SV)
 | some d,v,env=>(d,v)::env
 | none,_,env=>env
theorem iV {d:Option Nat}{op:SO}{g:Option (Nat×Bool)}{env:List (Nat×SV)}{hp:Hp}{k:Nat}{e:j4}:jO ⟨env,hp,k⟩ ⟨d,op,g⟩ e=⟨oU d e.v env,cH (bZ op) hp e.F e.F',k+e.nk⟩:=by
 cases d <;> rfl
theorem RW.B5 {d:Option Nat}{op:SO}{g:Option (Nat×Bool)}{r:List SI}{K:St→List (Bool×List Nat)→Prop}{env:List (Nat×SV)}{hp nq F F':Hp}{k k':Nat}{v:SV}{nk:Nat}{ob:Prop}
  (hc:fL op=false) (hg:g=none∨∃ t w,g=some (t,w)∧env.lookup t=some (.d (.bool w))) (he:ek P ⟨env,hp,k⟩ op []=some (⟨v,F,F',nk,ob⟩,[])) (aZ:ob) (hh:cH (bZ op) hp F F'=nq) (hk:k+nk=k')
  (h:RW P r ⟨oU d v env,nq,k'⟩ fun st' ts=>K st' ((bZ op,F.map (·.1)++F'.map (·.1))::ts)):RW P (⟨d,op,g⟩::r) ⟨env,hp,k⟩ K:=by
 refine RW.cons (e:=⟨v,F,F',nk,ob⟩) (fun dw=> ?_) aZ ?_
 ·obtain ⟨c0,h0⟩:=wM hc he dw
  exact ⟨c0,eP hg h0⟩
 ·rw [iV,hh,hk];exact h
theorem RW.Ek {d:Option Nat}{e sz len:Nat}{z:List SV}{parts:List (Nat×Nat×X)}{g:Option (Nat×Bool)}{r:List SI}{K:St→List (Bool×List Nat)→Prop}{env:List (Nat×SV)}{hp nq F F':Hp}{k k':Nat}{v:SV}{nk:Nat}{ob:Prop}
  (hg:g=none∨∃ t w,g=some (t,w)∧env.lookup t=some (.d (.bool w))) (he:ek P ⟨env,hp,k⟩ (.jL e sz len z parts) [.own]=some (⟨v,F,F',nk,ob⟩,[])) (aZ:ob) (hh:cH false hp F F'=nq) (hk:k+nk=k')
  (h:RW P r ⟨oU d v env,nq,k'⟩ fun st' ts=>K st' ((false,F.map (·.1)++F'.map (·.1))::ts)):RW P (⟨d,.jL e sz len z parts,g⟩::r) ⟨env,hp,k⟩ K:=by
 refine RW.cons (e:=⟨v,F,F',nk,ob⟩) (fun dw=>⟨.own::dw,eP hg ?_⟩) aZ ?_
 ·simp only [ek] at he ⊢
  split at he <;> first | (cases he;done) | skip
  rename_i hs
  injection he with he
  injection he with he _
  subst he
  rfl
 ·rw [iV]
  show RW P r ⟨oU d v env,cH false hp F F',k+nk⟩ _
  rw [hh,hk];exact h
theorem RW.B6 {d:Nat}{op:SO}{t:Nat}{w:Bool}{r:List SI}{K:St→List (Bool×List Nat)→Prop}{env:List (Nat×SV)}{hp:Hp}{k:Nat}{s:SV}(hg:env.lookup t=some s)(hs:kf w s=true)
  (h:RW P r ⟨(d,.cg [])::env,hp,k⟩ fun st' ts=>K st' ((bZ op,[])::ts)):RW P (⟨some d,op,some (t,w)⟩::r) ⟨env,hp,k⟩ K:=by
 have hh:cH (bZ op) hp [] []=hp:=by unfold cH;split <;> rfl
 refine RW.cons (e:=⟨.cg [],[],[],0,True⟩) (fun dw=>⟨dw,?_⟩) trivial ?_
 ·unfold kf at hs
  split at hs
  ·simp only [eX,hg];rw [if_neg (by simpa using hs)]
  ·simp only [eX,hg]
  ·cases hs
 ·rw [iV]
  show RW P r ⟨(d,.cg [])::env,cH (bZ op) hp [] [],k+0⟩ _
  rw [hh];exact h
theorem RW.Ar {op:SO}{t:Nat}{w:Bool}{r:List SI}{K:St→List (Bool×List Nat)→Prop}{env:List (Nat×SV)}{hp:Hp}{k:Nat}{s:SV}(hg:env.lookup t=some s)(hs:kf w s=true)
  (h:RW P r ⟨env,hp,k⟩ fun st' ts=>K st' ((bZ op,[])::ts)):RW P (⟨none,op,some (t,w)⟩::r) ⟨env,hp,k⟩ K:=by
 have hh:cH (bZ op) hp [] []=hp:=by unfold cH;split <;> rfl
 refine RW.cons (e:=⟨.cg [],[],[],0,True⟩) (fun dw=>⟨dw,?_⟩) trivial ?_
 ·unfold kf at hs
  split at hs
  ·simp only [eX,hg];rw [if_neg (by simpa using hs)]
  ·simp only [eX,hg]
  ·cases hs
 ·rw [iV]
  show RW P r ⟨env,cH (bZ op) hp [] [],k+0⟩ _
  rw [hh];exact h
theorem RW.B7 {d:Option Nat}{f:X}{args:List X}{g:Option (Nat×Bool)}{r:List SI}{K:St→List (Bool×List Nat)→Prop}{fid:FuncId}{as first cap as':List SV}{env:List (Nat×SV)}{hp F F':Hp}{k:Nat}{v:SV}{nk:Nat}
  (hf:ev (fun t=>env.lookup t) f=some (.fn (.func fid) first cap)) (ha:qu (fun t=>env.lookup t) args=some as) (has:first++as++cap=as') (hc:bp P fid as' F k nk v F') (hs:HSub F hp)
  (hg:g=none∨∃ t w,g=some (t,w)∧env.lookup t=some (.d (.bool w)))
  (h:RW P r ⟨oU d v env,cH false hp F F',k+nk⟩ fun st' ts=>K st' ((false,F.map (·.1)++F'.map (·.1))::ts)):RW P (⟨d,.call f args,g⟩::r) ⟨env,hp,k⟩ K:=by
 refine RW.call (st:=⟨env,hp,k⟩) hf ha has hc hs hg ?_
 rw [iV];exact h
end
section
variable {P:Program}
def l_ (P:Program)(o:Oper)(E:Nat→Option SV)(H:Nat→Option Ob)(k nk:Nat)(F:Hp)(Q:SV→Hp→Prop):Prop:=
 (∀ n ob,lk F n=some ob→H n=some ob)∧
 ∀ (rd:Option Nat) (p:Nat→Prop) (μ:Nat→Nm) (M:Mem) (a:Act) (w:World) (K:Act→World→Prop) (QQ:Exit→Act→World→Prop),(∀ n,(k≤n∧n<k+nk)→ ¬ p n)→fW E o.op.operands p μ M a→bD p μ M (lk F) w→
  (∀ r F' u aY M' w',Q r F'→Rp (fun n=>p n∨(k≤n∧n<k+nk)) aY M' r u→bD (fun n=>p n∨(k≤n∧n<k+nk)) aY M' (lk F') w'→Ev (lk F) (fun n=>k≤n∧n<k+nk) μ M w (lk F') aY M' w'→K (a.put o.dst u) w')→
  o.wpIn (iJ rd) 0 P a w K QQ
theorem Sound.q {o:Oper}{E:Nat→Option SV}{H:Nat→Option Ob}{k:Nat}{e:j4}(h:Sound P o E H k e):l_ P o E H k e.nk e.F (fun r F'=>r=e.v∧F'=e.F'):=
 ⟨h.2,fun rd p μ M a w K QQ h1 h2 h3 h4=>h.1 rd p μ M a w K QQ h1 h2 h3 fun u aY M' w' a1 a2 a3=>h4 _ _ u aY M' w' ⟨rfl,rfl⟩ a1 a2 a3⟩
theorem gl.step {N:Nat}{rd:Option Nat}{bT:Nat→Nm}{M0:Mem}{w0:World}{c0:Nat→Option Ob}{k0:Nat}{st:St}{a:Act}{w:World}{o:Oper}{si:SI}{F:Hp}{nk:Nat}{Q:SV→Hp→Prop}(hd:si.dst=o.dst)(hN:∀ d,o.dst=some d→d<N)
  (h:l_ P o (fun t=>st.env.lookup t) (lk st.hp) st.k nk F Q) (hro:∀ r F',Q r F'→bZ si.op=true→F'=F) (eE:gl N bT M0 w0 c0 k0 st a w) {K:Act→World→Prop} {QQ:Exit→Act→World→Prop}
  (hK:∀ r F',Q r F'→∀ a' w',gl N bT M0 w0 c0 k0 (jO st si ⟨r,F,F',nk,True⟩) a' w'→K a' w'):o.wpIn (iJ rd) 0 P a w K QQ:=by
 obtain ⟨hk0,hdf,hsz,μ,M,f_,hS,hE⟩:=eE
 have hsub:∀ n ob,lk F n=some ob→lk st.hp n=some ob:=h.1
 refine h.2 rd (· <st.k) μ M a w K QQ (fun n hn=>by omega) ⟨fun t _ s hs=>f_ t s hs,hS.mem.jK⟩ (hS.sub hsub) fun r F' u aY M' w' hQ hu qG hE'=>hK r F' hQ _ _ ?_
 have hp:(fun n=>n<st.k∨(st.k≤n∧n<st.k+nk))=(· <st.k+nk):=funext fun n=>propext ⟨fun h=>by rcases h with h | h <;> omega,fun h=>by show n<st.k∨_;omega⟩
 have hfr:=hS.xY hsub (fun n hn=>by omega) hE' qG fun n h=> .inl h
 rw [hp] at hu hfr
 have hnew:∀ n,(k0≤n∧n<st.k)∨(st.k≤n∧n<st.k+nk)↔k0≤n∧n<st.k+nk:=fun n=>by omega
 have hlk:lk (cH (bZ si.op) st.hp F F')=zl (lk st.hp) (lk F) (lk F'):=jc hsub (hro r F' hQ)
 refine ⟨by show k0≤st.k+nk;omega,by rw [jN];exact hdf.ev hS hfr.2,by rw [l5];exact hsz,aY,M',fun t s hs=> ?_,?_,?_⟩
 ·have hold:∀ s,st.env.lookup t=some s→Rp (· <st.k+nk) aY M' s (a.tmps.getD t undef):=fun s h'=>
   (f_ t s h').more (fun n h=>by omega) (fun n h=>hE'.old n fun h'=>by omega) hE'.mem
  simp only [jO,hd] at hs
  cases hod:o.dst with
  | none=>rw [hod] at hs;exact hold s hs
  | some d=>
   rw [hod] at hs
   simp only at hs
   rw [kR] at hs
   by_cases hdt:d=t
   ·subst hdt
    simp at hs
    subst hs
    rw [rM (by rw [hsz];exact hN d hod)]
    exact hu
   ·rw [if_neg hdt] at hs
    rw [mL (fun e=>hdt e.symm)]
    exact hold s hs
 ·show bD _ _ _ (lk (cH (bZ si.op) st.hp F F')) _
  rw [hlk];exact hfr.1
 ·show Ev _ _ _ _ _ (lk (cH (bZ si.op) st.hp F F')) _ _ _
  rw [hlk]
  exact (hE.trans hfr.2).qR fun n=>hnew n
theorem gl.skip {N:Nat}{bT:Nat→Nm}{M0:Mem}{w0:World}{c0:Nat→Option Ob}{k0:Nat}{st:St}{a:Act}{w:World}{si:SI}{d:Option Nat}(hd:si.dst=d)(hN:∀ x,d=some x→x<N)
  (eE:gl N bT M0 w0 c0 k0 st a w):gl N bT M0 w0 c0 k0 (jO st si ⟨.cg [],[],[],0,True⟩) (a.put d undef) w:=by
 obtain ⟨hk0,hdf,hsz,μ,M,f_,hS,hE⟩:=eE
 have hh:cH (bZ si.op) st.hp [] []=st.hp:=by unfold cH;split <;> rfl
 refine ⟨hk0,by rw [jN];exact hdf,by rw [l5];exact hsz,μ,M,fun t s hs=> ?_,by simp only [jO,hh];exact hS,by simp only [jO,hh];exact hE⟩
 simp only [jO,hd] at hs
 cases d with
 | none=>exact f_ t s hs
 | some d=>
  simp only at hs
  rw [kR] at hs
  by_cases hdt:d=t
  ·subst hdt
   simp at hs
   subst hs
   rw [t_]
   exact Rp.dI.2 ⟨#[],rfl,aM.aN.2 rfl⟩
  ·rw [if_neg hdt] at hs
   rw [mL (fun e=>hdt e.symm)]
   exact f_ t s hs
def dX (P:Program)(N k0:Nat)(ck:List SI)(st:St)(K:St→Prop):Prop:=
 ∀ (ops:Array Oper) (i:Nat),i+ck.length=ops.size→(∀ j si,ck[j]? =some si→∃ o,ops[i+j]? =some o∧nr P ops o=some si)→(∀ si∈ck,∀ d,si.dst=some d→d<N)→
  ∀ (rd:Option Nat) (bT:Nat→Nm) (M0:Mem) (w0:World) (c0:Nat→Option Ob) (a:Act) (w:World),gl N bT M0 w0 c0 k0 st a w→∀ Q':Exit→Act→World→Prop,(∀ st' a' w',K st'→gl N bT M0 w0 c0 k0 st' a' w'→Q' .normal a' w')→
   wpOpsIn (iJ rd) 0 P ops Q' (List.range' i ck.length) a w
theorem dX.nil {N k0:Nat}{st:St}{K:St→Prop}(h:K st):dX P N k0 [] st K:=fun ops i _ _ _ rd bT M0 w0 c0 a w eE Q' hQ=>hQ st a w h eE
theorem dX.cons {N k0:Nat}{st:St}{K:St→Prop}{si:SI}{r:List SI}
  (h:∀ (ops:Array Oper) (o:Oper),nr P ops o=some si→(∀ d,si.dst=some d→d<N)→∀ (rd:Option Nat) (bT:Nat→Nm) (M0:Mem) (w0:World) (c0:Nat→Option Ob) (a:Act) (w:World),gl N bT M0 w0 c0 k0 st a w→
   ∀ (i:Nat),ops[i]? =some o→∀ (Q':Exit→Act→World→Prop) (KK:Act→World→Prop),(∀ st' a' w',dX P N k0 r st' K→gl N bT M0 w0 c0 k0 st' a' w'→KK a' w')→wpOpIn (iJ rd) 0 P ops Q' i KK a w):dX P N k0 (si::r) st K:=by
 intro ops i hl hget hN rd bT M0 w0 c0 a w eE Q' hQ
 obtain ⟨o,ho,hc⟩:=hget 0 si rfl
 simp only [Nat.add_zero] at ho
 rw [List.length_cons,List.range'_succ,wpOpsIn_cons]
 refine h ops o hc (fun d hd=>hN si (by simp) d hd) rd bT M0 w0 c0 a w eE i ho Q' _ fun st' a' w' hn hSt'=> ?_
 exact hn ops (i+1) (by simp at hl;omega) (fun j sj hj=>by
  obtain ⟨o',ho',hc'⟩:=hget (j+1) sj (by simpa using hj)
  exact ⟨o',by rw [show i+1+j=i+(j+1) by omega];exact ho',hc'⟩) (fun s hs d hd=>hN s (by simp [hs]) d hd) rd bT M0 w0 c0 a' w' hSt' Q' hQ
theorem dX.many {N k0:Nat}{st:St}{K:St→Prop}{si:SI}{r:List SI}{F:Hp}{nk:Nat}{Q:SV→Hp→Prop}(hg:si.g=none)(hq:∀ o:Oper,cO P o.op=some si.op→l_ P o (fun t=>st.env.lookup t) (lk st.hp) st.k nk F Q)
  (hro:bZ si.op=false) (h:∀ v F',Q v F'→dX P N k0 r (jO st si ⟨v,F,F',nk,True⟩) K):dX P N k0 (si::r) st K:=by
 refine dX.cons fun ops o hc hN rd bT M0 w0 c0 a w eE i ho Q' KK B8=> ?_
 obtain ⟨g1,g2,g3⟩:=fK hc
 have hgn:o.guard=none:=by
  rcases g3 with ⟨h,_⟩ | ⟨j,w,t,h,_,h'⟩
  ·exact h
  ·rw [hg] at h';cases h'
 unfold wpOpIn
 simp only [ho,Region.wanted,hgn,if_true]
 exact (gl.step g2 (fun d hd=>hN d (by rw [g2];exact hd)) (hq o g1) (fun v F' _ hr=>by rw [hro] at hr;cases hr) eE fun v F' hQ a' w' hSt'=>B8 _ a' w' (h v F' hQ) hSt')
theorem dX.Ft {N k0:Nat}{K:St→Prop}{rest:List SI}:∀ {ck:List SI} {st st':St} {dw:List CR} {ob:Prop} {ts:List (Bool×List Nat)},Go.Sl.runs P ck st dw=some (st',ob,ts)→ob→dX P N k0 rest st' K→dX P N k0 (ck++rest) st K:=by
 intro ck
 induction ck with
 | nil=>
  intro st st' dw ob ts h _ hk
  simp only [Go.Sl.runs] at h
  injection h with h
  injection h with h1 _
  subst h1
  exact hk
 | cons si r ih=>
  intro st st' dw ob ts h aZ hk
  simp only [Go.Sl.runs] at h
  split at h <;> first | (cases h;done) | skip
  rename_i e crs' hop
  split at h <;> first | (cases h;done) | skip
  rename_i st2 DT ts2 hr
  injection h with h
  injection h with h1 h
  injection h with h2 h3
  subst h1;subst h2
  refine dX.cons fun ops o hc hN rd bT M0 w0 c0 a w eE i ho Q' KK B8=> ?_
  obtain ⟨b1,b2,b3⟩:=nJ hc hop aZ.1
  obtain ⟨g1,g2,g3⟩:=fK hc
  have hnext:=ih hr aZ.2 hk
  have hu:jO st si e=jO st si ⟨e.v,e.F,e.F',e.nk,True⟩:=rfl
  unfold wpOpIn
  simp only [ho]
  obtain ⟨hk0,hdf,hsz,μ,M,f_,hS,hE⟩:=eE
  have eE:gl N bT M0 w0 c0 k0 st a w:=⟨hk0,hdf,hsz,μ,M,f_,hS,hE⟩
  rcases b1 with ⟨j,want,t,sv,hg,hd,hE',hb,e1,e2,e3,e4⟩ | ⟨hg,hs⟩
  ·have hv:=f_ t _ hE'
   have hw:Region.wanted o (yielded ops a.tmps)=false:=by
    simp only [Region.wanted,hg]
    unfold kf at hb
    split at hb
    ·rw [gq hd (Rp.br.1 hv)]
     simpa using hb
    ·obtain ⟨vs,e,hvs⟩:=Rp.dI.1 hv
     have hvs0:vs= #[]:=by have:=aM.aN.1 hvs;simpa using this
     rw [nG hd (by rw [e,hvs0];rfl)]
     rfl
    ·cases hb
   simp only [hw,Bool.false_eq_true,if_false]
   obtain ⟨v,F,F',nk,eo⟩:=e
   simp only at e1 e2 e3 e4
   subst e1;subst e2;subst e3;subst e4
   exact ⟨fun _ _=>trivial,B8 _ _ _ hnext (gl.skip g2 (fun d hd=>hN d (by rw [g2];exact hd)) eE)⟩
  ·have hw:Region.wanted o (yielded ops a.tmps)=true:=by
    rcases hg with hg | ⟨j,want,t,hg,hd,hE'⟩
    ·simp [Region.wanted,hg]
    ·have hv:=Rp.br.1 (f_ t _ hE')
     simp only [Region.wanted,hg,gq hd hv]
     simp
   simp only [hw,if_true]
   exact (gl.step g2 (fun d hd=>hN d (by rw [g2];exact hd)) hs.q (fun v F' hQ hr=>by rw [hQ.2];exact b2 hr) eE fun v F' hQ a' w' hSt'=>B8 _ a' w' (by rw [hQ.1,hQ.2];exact hnext) hSt')
theorem dX.runs {N k0:Nat}{K:St→Prop}{ck:List SI}{st st':St}{dw:List CR}{ob:Prop}{ts:List (Bool×List Nat)}(h:Go.Sl.runs P ck st dw=some (st',ob,ts))(ho:ob)(hk:K st'):dX P N k0 ck st K:=by
 have:=dX.Ft (N:=N) (k0:=k0) (rest:=[]) h ho (dX.nil hk)
 rwa [List.append_nil] at this
theorem dX.one {N k0:Nat}{K:St→Prop}{si:SI}{r:List SI}{st:St}{e:j4}{c2 dw:List CR}(h1:eX P st si dw=some (e,c2))(aZ:e.ob)(h:dX P N k0 r (jO st si e) K):dX P N k0 (si::r) st K:=
 dX.Ft (ck:=[si]) (dw:=dw) (st':=jO st si e) (ob:=e.ob∧True) (ts:=[gd si e]) (by simp only [Go.Sl.runs,h1]) ⟨aZ,trivial⟩ h
theorem SW.Js {N k0:Nat}{st:St}{ck:List SI}{K:St→Prop}{st1:St}{ρ:Nat→Nat}(hw:bg k0 st st1 ρ)(h:dX P N k0 ck st1 K):dX P N k0 ck st K:=
 fun ops i h1 h2 h3 rd bT M0 w0 c0 a w eE=>h ops i h1 h2 h3 rd bT M0 w0 c0 a w (eE.weak hw)
theorem SW.IC {N k0:Nat}{st:St}{Q:Exit→St→Prop}{ck:List SI}{bs:List Nat}(h:dX P N k0 ck st (Q .normal)):SW P N k0 (.eN ck bs false) st Q:=by
 intro c hc rd hrf bT M0 w0 c0 a w eE
 cases c <;> simp only [cK] at hc <;> first
  | (cases hc;done)
  | (exfalso;split at hc <;> cases hc;done)
  | (exfalso;obtain ⟨_,_,h'⟩:=Option.map_eq_some_iff.1 hc;cases h';done)
  | skip
 rename_i id ops draw
 split at hc <;> first | (cases hc;done) | skip
 rename_i sis' bs' hreg
 injection hc with hc
 injection hc with h1 h2 h3
 subst h1;subst h3
 unfold BP at hreg
 split at hreg <;> first | (cases hreg;done) | skip
 rename_i sis2 hsis
 split at hreg <;> first | (cases hreg;done) | skip
 rename_i hchk
 injection hreg with hreg
 injection hreg with hr1 hr2
 subst hr1
 simp only [Bool.and_eq_true] at hchk
 obtain ⟨_,hin⟩:=hchk
 obtain ⟨hlen,hget⟩:=kS hsis
 refine wpIn_region ?_
 rw [List.range_eq_range']
 have hn:ops.size=sis2.length:=by simpa using hlen
 rw [hn]
 refine h ops 0 (by omega) (fun j si hj=> ?_) (fun si hs d hd=> ?_) rd bT M0 w0 c0 a w eE _ fun st' a' w' hk hSt'=>⟨st',hk,hSt'⟩
 ·have hj':j<ops.size:=by rw [hn];exact (List.getElem?_eq_some_iff.1 hj).1
  obtain ⟨si',h1,h2⟩:=hget j ops[j] (by simp [hj'])
  rw [hj] at h1;injection h1 with h1;subst h1
  exact ⟨ops[j],by rw [Nat.zero_add];exact Array.getElem?_eq_getElem hj',h2⟩
 ·have:=List.all_eq_true.1 hin si hs
  rw [hd] at this
  simpa using this
end
end Go.Sl
namespace Go.Sl
open Go.RowKit
section
def uv (n:Nat):SV:= .d (.int .u64 (n:Int))
section
variable {K:Type} [DecidableEq K] {kc:K→List SV}
theorem lu (L:MM K Nat)(a:K):lP (aH kc uv L) (.d (.int .u64 0)) (MM.idx L a)= .d (.int .u64 (((MM.get L a).getD 0:Nat):Int)):=mP (vs:=uv) 0 L a
theorem lz (L:MM K Nat)(c:Nat)(a:K)(n:Nat):qy (aH kc uv L) c (.agg (kc a)) (.d (.int .u64 (n:Int))) (MM.idx L a)= .map (aH kc uv (MM.put L c a n)) (MM.nO L c a):=uj (vs:=uv) L c a n
theorem lB (L:MM K Nat)(c:Nat)(a:K):qz (aH kc uv L) c (.agg (kc a)) (.d (.int .u64 0)) (MM.idx L a)= .map (aH kc uv (MM.vV L c a 0)) (MM.nO L c a):=ve (vs:=uv) L c a 0
theorem lC (L:MM K Nat)(c:Nat)(a:K)(z v:Nat):(aH kc uv (MM.vV L c a z)).modify (MM.pos L a) (fun e=>(e.1,e.2.1,.d (.int .u64 (v:Int))))=aH kc uv (MM.put L c a v):=mQ (vs:=uv) L c a z v
theorem eY (ρ:Nat→Nat)(L:MM Dt Nat):(aH Dt.cells uv L).map (fun e=>(e.1,e.2.1.aV ρ,e.2.2.aV ρ))=aH Dt.cells uv L:=jv ρ L (fun a=>Dt.aD a ρ) (fun v=>rfl)
theorem eu (q:Nat→Bool)(L:MM Dt Nat):((aH Dt.cells uv L).all fun e=>e.2.1.ok q && e.2.2.ok q)=true:=jS q L (fun a=>Dt.aj a q) (fun v=>rfl)
end
structure Sp where
 d:Dt
 n:Nat
 deriving DecidableEq
def Sp.ds (x:Sp):List DV:=[.int .u8 x.d.r,.int .u32 x.d.n,.int .u64 x.n]
def Sp.cells (x:Sp):List SV:=x.ds.map .d
theorem Sp.jm (x:Sp):x.ds.map .d=x.cells:=rfl
@[simp] theorem Sp.l8 (x:Sp):x.ds.length=3:=rfl
@[simp] theorem Sp.ji (x:Sp):x.cells.length=3:=rfl
@[simp] theorem Sp.aj (x:Sp) (q:Nat→Bool):SV.aI q x.cells=true:=SV.bt _
@[simp] theorem Sp.aD (x:Sp) (ρ:Nat→Nat):SV.bh ρ x.cells=x.cells:=SV.fI _
theorem Sp.cells_one (x:Sp):x.cells.all SV.cL=true:=rfl
@[simp] theorem Sp.aP (x:Sp):x.cells.take 3=x.cells:=rfl
theorem Sp.dO (x:Sp):x.cells.take 2=x.d.cells:=rfl
theorem Sp.gN (x:Sp):x.cells[2]? =some (u64 x.n):=rfl
theorem Sp.aW (c x:Sp):bE c.cells 0 x.cells=x.cells:=rfl
def Sp.zero:Sp:=⟨⟨0,0⟩,0⟩
theorem Sp.aJ:([.d (.int .u8 0),.d (.int .u32 0),.d (.int .u64 0)]:List SV)=Sp.zero.cells:=rfl
theorem Sp.fZ (d:Dt)(n:Nat):bE (bE Sp.zero.cells 0 d.cells) 2 [.d (.int .u64 (n:Int))]=(Sp.mk d n).cells:=rfl
theorem Sp.nE (a b:Sp):iu [true,true,true] a.cells b.cells=some (decide (a=b)):=by
 have h:iu [true,true,true] a.cells b.cells=some (((a.d.r:Int) == b.d.r) && (((a.d.n:Int) == b.d.n) && (((a.n:Int) == b.n) && true))):=by simp [iu,DI,Sp.cells,Sp.ds]
 rw [h]
 congr 1
 obtain ⟨⟨a0,a1⟩,a2⟩:=a
 obtain ⟨⟨b0,b1⟩,b2⟩:=b
 rw [Bool.eq_iff_iff]
 simp
 omega
abbrev Hj (l:List Sp):List SV:=List.map SV.d (l.flatMap Sp.ds)
abbrev cF (l:List Sp):SV:= .d (.sl l.length (l.flatMap Sp.ds))
@[simp] theorem zH (l:List Sp):(l.flatMap Sp.ds).length=l.length*3:=ct Sp.ds 3 (fun _=>rfl) l
theorem su {l:List Sp}{i:Nat}{x:Sp}(h:l[i]? =some x):List.take 3 (List.drop (i*3) (List.map SV.d (l.flatMap Sp.ds)))=x.cells:=by
 rw [← List.map_drop,← List.map_take,iw Sp.ds 3 (fun _=>rfl) l i x h]
 rfl
theorem Gr {l:List Sp}{i:Nat}{x:Sp}(h:l[i]? =some x){j:Nat}(hj:j<3):(List.map SV.d (l.flatMap Sp.ds))[i*3+j]? =x.cells[j]? :=by
 rw [List.getElem?_map,kg Sp.ds 3 (fun _=>rfl) l i j x h hj,Sp.cells,List.getElem?_map]
theorem As {l:List Sp}{i:Nat}{x:Sp}(h:l[i]? =some x):(List.map SV.d (l.flatMap Sp.ds))[i*3+2]? =some (u64 x.n):=by rw [Gr h (by omega)];rfl
theorem yw {l:List Sp}{i:Nat}{x:Sp}(h:l[i]? =some x):List.take 2 (List.drop (i*3) (List.map SV.d (l.flatMap Sp.ds)))=x.d.cells:=by
 have h1:List.take 2 (List.drop (i*3) (List.map SV.d (l.flatMap Sp.ds)))=(List.take 3 (List.drop (i*3) (List.map SV.d (l.flatMap Sp.ds)))).take 2:=by rw [List.take_take];rfl
 rw [h1,su h,Sp.dO]
theorem sx {l:List Sp}{i:Nat}{x:Sp}(h:l[i]? =some x):(i*3+2≤(List.map SV.d (l.flatMap Sp.ds)).length)=True:=eq_true (by
 have:=bq h
 rw [List.length_map,zH]
 omega)
theorem wN {l:List Sp}{i:Nat}{x:Sp}(h:l[i]? =some x):(i*3+3≤(List.map SV.d (l.flatMap Sp.ds)).length)=True:=eq_true (by
 have:=bq h
 rw [List.length_map,zH]
 omega)
theorem lD (x:Cr):dF x.cells=some x.ds:=rfl
theorem lE (x:Sp):dF x.cells=some x.ds:=rfl
end
section
def B9 (n:Nat):List DV:=[.int .u32 n]
def vl (l:List Nat):DV:= .sl l.length (l.flatMap B9)
abbrev eS (l:List Nat):SV:= .d (.sl l.length (l.flatMap B9))
@[simp] theorem HU (l:List Nat):(l.flatMap B9).length=l.length:=by
 rw [ct B9 1 (fun _=>rfl) l,Nat.mul_one]
theorem eU {l:List Nat}{i:Nat}{x:Nat}(h:l[i]? =some x):(List.map SV.d (l.flatMap B9))[i]? =some (u32 x):=by
 have:=kg B9 1 (fun _=>rfl) l i 0 x h (by omega)
 rw [Nat.mul_one,Nat.add_zero] at this
 rw [List.getElem?_map,this];rfl
structure av where
 dot:Dt
 item:Nat
 kn:Nat
 cu:Nat
 iU:Dt
 ap:List Nat
 re:List Nat
 st:Nat
 deriving DecidableEq
def av.ds (x:av):List DV:=[.int .u8 x.dot.r,.int .u32 x.dot.n,.int .u32 x.item,.int .u32 x.kn,.int .u32 x.cu,.int .u8 x.iU.r,.int .u32 x.iU.n,vl x.ap,vl x.re,.int .u8 x.st]
def av.cells (x:av):List SV:=x.ds.map .d
@[simp] theorem av.l8 (x:av):x.ds.length=10:=rfl
@[simp] theorem av.ji (x:av):x.cells.length=10:=rfl
@[simp] theorem av.aj (x:av) (q:Nat→Bool):SV.aI q x.cells=true:=SV.bt _
@[simp] theorem av.aD (x:av) (ρ:Nat→Nat):SV.bh ρ x.cells=x.cells:=SV.fI _
theorem av.cells_one (x:av):x.cells.all SV.cL=true:=rfl
@[simp] theorem av.aP (x:av):x.cells.take 10=x.cells:=rfl
theorem av.dO (x:av):x.cells.take 2=x.dot.cells:=rfl
theorem av.jx (x:av):x.cells[2]? =some (u32 x.item):=rfl
theorem av.m_ (x:av):x.cells[3]? =some (u32 x.kn):=rfl
theorem av.gh (x:av):x.cells[4]? =some (u32 x.cu):=rfl
theorem av.nS (x:av):(x.cells.drop 5).take 2=x.iU.cells:=rfl
theorem av.Fu (x:av):x.cells[7]? =some (eS x.ap):=rfl
theorem av.Fv (x:av):x.cells[8]? =some (eS x.re):=rfl
theorem av.Gs (x:av):x.cells[9]? =some (u8 x.st):=rfl
theorem av.aW (c x:av):bE c.cells 0 x.cells=x.cells:=rfl
theorem av.Gt (x:av)(n:Nat):bE x.cells 9 [.d (.int .u8 n)]=av.cells { x with st:=n}:=rfl
theorem av.Gu (x:av)(l:List Nat):bE x.cells 7 [eS l]=av.cells { x with ap:=l}:=rfl
theorem av.Gv (x:av)(l:List Nat):bE x.cells 8 [eS l]=av.cells { x with re:=l}:=rfl
abbrev dD (l:List av):SV:= .d (.sl l.length (l.flatMap av.ds))
abbrev xV (l:List av):List SV:=List.map SV.d (l.flatMap av.ds)
@[simp] theorem vm (l:List av):(l.flatMap av.ds).length=l.length*10:=ct av.ds 10 (fun _=>rfl) l
theorem jB {l:List av}{i:Nat}{x:av}(h:l[i]? =some x):List.take 10 (List.drop (i*10) (List.map SV.d (l.flatMap av.ds)))=x.cells:=by
 rw [← List.map_drop,← List.map_take,iw av.ds 10 (fun _=>rfl) l i x h]
 rfl
theorem B_ {l:List av}{i:Nat}{x:av}(h:l[i]? =some x){j:Nat}(hj:j<10):(List.map SV.d (l.flatMap av.ds))[i*10+j]? =x.cells[j]? :=by
 rw [List.getElem?_map,kg av.ds 10 (fun _=>rfl) l i j x h hj,av.cells,List.getElem?_map]
theorem zI {l:List av}{i j n:Nat}{x:av}(h:l[i]? =some x)(hj:j+n≤10):(i*10+j+n≤(List.map SV.d (l.flatMap av.ds)).length)=True:=eq_true (by
 have:=bq h
 rw [List.length_map,vm]
 omega)
theorem dV {l:List av}{i:Nat}{x:av}(h:l[i]? =some x):(i*10+10≤(List.map SV.d (l.flatMap av.ds)).length)=True:=eq_true (by
 have:=bq h
 rw [List.length_map,vm]
 omega)
theorem Gw {l:List av}{i:Nat}(x:av)(h:i<l.length):bE (List.map SV.d (l.flatMap av.ds)) (i*10) x.cells=List.map SV.d ((l.set i x).flatMap av.ds):=zC av.ds 10 (by omega) (fun _=>rfl) l i x h
def av.sy (x:av):List DV:=[.int .u8 x.dot.r,.int .u32 x.dot.n,.int .u8 x.iU.r,.int .u32 x.iU.n,.int .u32 x.item,.int .u32 x.kn,.int .u32 x.cu,vl x.ap]
def av.sv (x:av):List SV:=x.sy.map .d
theorem av.zJ (x:av):x.sy.map .d=x.sv:=rfl
@[simp] theorem av.ID (x:av):x.sy.length=8:=rfl
@[simp] theorem av.yx (x:av):x.sv.length=8:=rfl
@[simp] theorem av.HV (x:av) (q:Nat→Bool):SV.aI q x.sv=true:=SV.bt _
@[simp] theorem av.Gx (x:av) (ρ:Nat→Nat):SV.bh ρ x.sv=x.sv:=SV.fI _
theorem av.jZ (x:av):x.sv.all SV.cL=true:=rfl
theorem av.nU (x:av):x.sv.take 8=x.sv:=rfl
theorem av.oV (x:av):x.sv.take 2=x.dot.cells:=rfl
theorem av.yy (x:av):(x.sv.drop 2).take 2=x.iU.cells:=rfl
theorem av.sA (x:av):x.sv[4]? =some (u32 x.item):=rfl
theorem av.yz (x:av):x.sv[5]? =some (u32 x.kn):=rfl
theorem av.nV (x:av):x.sv[6]? =some (u32 x.cu):=rfl
theorem av.yA (x:av):x.sv[7]? =some (eS x.ap):=rfl
theorem av.nW (x:av):bE (bE (bE (bE (bE (bE [.d (.int .u8 0),.d (.int .u32 0),.d (.int .u8 0),.d (.int .u32 0),.d (.int .u32 0),.d (.int .u32 0),.d (.int .u32 0),.d .ay] 0 x.dot.cells) 2 x.iU.cells) 4 [.d (.int .u32 (x.item:Int))]) 5 [.d (.int .u32 (x.kn:Int))]) 6 [.d (.int .u32 (x.cu:Int))]) 7 [eS x.ap]=x.sv:=rfl
theorem av.nX (x:av):bE [.d (.int .u8 0),.d (.int .u32 0),.d (.int .u8 0),.d (.int .u32 0),.d (.int .u32 0),.d (.int .u32 0),.d (.int .u32 0),.d .ay] 0 x.sv=x.sv:=rfl
abbrev fC (l:List av):SV:= .d (.sl l.length (l.flatMap av.sy))
abbrev yB (l:List av):List SV:=List.map SV.d (l.flatMap av.sy)
@[simp] theorem sB (l:List av):(l.flatMap av.sy).length=l.length*8:=ct av.sy 8 (fun _=>rfl) l
theorem vn {l:List av}{i:Nat}{x:av}(h:l[i]? =some x):List.take 8 (List.drop (i*8) (List.map SV.d (l.flatMap av.sy)))=x.sv:=by
 rw [← List.map_drop,← List.map_take,iw av.sy 8 (fun _=>rfl) l i x h]
 rfl
theorem um {l:List av}{i:Nat}{x:av}(h:l[i]? =some x):(i*8+8≤(List.map SV.d (l.flatMap av.sy)).length)=True:=eq_true (by
 have:=bq h
 rw [List.length_map,sB]
 omega)
def aG (dot aQ:Dt)(who:Nat)(ls:SV)(tot:Nat):List SV:=[.d (.int .u8 dot.r),.d (.int .u32 dot.n),.d (.int .u8 aQ.r),.d (.int .u32 aQ.n),.d (.int .u32 who),ls,.d (.int .u64 tot)]
section
variable (dot aQ:Dt) (who:Nat) (ls:SV) (tot:Nat)
@[simp] theorem aG.len:(aG dot aQ who ls tot).length=7:=rfl
theorem aG.all:(aG dot aQ who ls tot).take 7=aG dot aQ who ls tot:=rfl
theorem aG.dO:(aG dot aQ who ls tot).take 2=dot.cells:=rfl
theorem aG.gP:((aG dot aQ who ls tot).drop 2).take 2=aQ.cells:=rfl
theorem aG.nQ:(aG dot aQ who ls tot)[4]? =some (u32 who):=rfl
theorem aG.Gy:(aG dot aQ who ls tot)[5]? =some ls:=rfl
theorem aG.yC:(aG dot aQ who ls tot)[6]? =some (u64 tot):=rfl
theorem aG.Gz (x:SV):bE (aG dot aQ who ls tot) 5 [x]=aG dot aQ who x tot:=rfl
theorem aG.yD (n:Nat):bE (aG dot aQ who ls tot) 6 [.d (.int .u64 (n:Int))]=aG dot aQ who ls n:=rfl
theorem aG.fZ:bE (bE (bE [.d (.int .u8 0),.d (.int .u32 0),.d (.int .u8 0),.d (.int .u32 0),.d (.int .u32 0),.d .ay,.d (.int .u64 0)] 0 dot.cells) 2 aQ.cells) 4 [.d (.int .u32 (who:Int))]=aG dot aQ who (.d .ay) 0:=rfl
end
end
end Go.Sl
namespace Go.Sl
section
def iW (x:av)(iU:Dt)(who:Nat):Bool:=decide (x.st=0) && decide (x.iU=iU) && decide (x.re=[]) && x.ap.any fun a=>decide (a≠who)
def av.gi (x:av):av:={ x with st:=2}
theorem mc (x:av)(iU:Dt)(who:Nat):iW x.gi iU who=false:=by
 unfold iW av.gi;simp
def ej (l:List av)(d:Dt):Option Nat:=l.findIdx? fun x=>decide (x.dot=d)
theorem oW {l:List av}{d:Dt}{i:Nat}(h:ej l d=some i):∃ x,l[i]? =some x∧x.dot=d:=by
 unfold ej at h
 rw [List.findIdx?_eq_some_iff_getElem] at h
 obtain ⟨hi,h1,_⟩:=h
 exact ⟨l[i],List.getElem?_eq_getElem hi,by simpa using h1⟩
theorem GA {l:List av}{d:Dt}{i:Nat}(h:ej l d=some i):i<l.length:=by
 obtain ⟨x,hx,_⟩:=oW h
 exact (List.getElem?_eq_some_iff.1 hx).1
theorem Au {l m:List av}(h:l.map (·.dot)=m.map (·.dot))(d:Dt):ej l d=ej m d:=by
 unfold ej
 have e:∀ l:List av,(l.findIdx? fun x=>decide (x.dot=d))=(l.map (·.dot)).findIdx? fun x=>decide (x=d):=fun l=>by
  rw [List.findIdx?_map];rfl
 rw [e,e,h]
def eB (A:Dt→Option Nat)(who:Nat)(S:List av×List Nat)(c:Cm):List av×List Nat:=
 match A c.line with
 | none=>S
 | some i=>match S.1[i]? with
  | none=>S
  | some x=>if iW x c.iU who then (S.1.set i x.gi,S.2++[i]) else S
def bB (A:Dt→Option Nat)(who:Nat)(S:List av×List Nat)(cs:List Cm):List av×List Nat:=cs.foldl (eB A who) S
theorem sC (A:Dt→Option Nat)(who:Nat)(S:List av×List Nat)(cs:List Cm)(c:Cm):bB A who S (cs++[c])=eB A who (bB A who S cs) c:=by
 unfold bB;rw [List.foldl_append];rfl
theorem nY (A:Dt→Option Nat)(who:Nat)(S:List av×List Nat)(cs:List Cm)(c:Cm):bB A who S (c::cs)=bB A who (eB A who S c) cs:=rfl
structure me (l:List av)(S:List av×List Nat):Prop where
 len:S.1.length=l.length
 nd:S.2.Nodup
 lt:∀ i,i∈S.2→i<l.length
 get:∀ (i:Nat) (x:av),l[i]? =some x→S.1[i]? =some (if i∈S.2 then x.gi else x)
theorem me.zero (l:List av):me l (l,[]):=⟨rfl,List.nodup_nil,by simp,fun i x h=>by simpa using h⟩
theorem me.step {l:List av}{S:List av×List Nat}(h:me l S)(A:Dt→Option Nat)(who:Nat)(c:Cm):me l (eB A who S c):=by
 unfold eB
 split
 ·exact h
 ·rename_i i hA
  split
  ·exact h
  ·rename_i x hx
   split
   ·rename_i hm
    have hi:i<S.1.length:=(List.getElem?_eq_some_iff.1 hx).1
    have hil:i<l.length:=h.len ▸ hi
    have h0:=h.get i _ (List.getElem?_eq_getElem hil)
    rw [hx] at h0
    have hni:i∉S.2:=fun hin=>by
     rw [if_pos hin] at h0
     rw [Option.some.inj h0,mc] at hm
     cases hm
    rw [if_neg hni] at h0
    refine ⟨by simpa using h.len,?_,?_,?_⟩
    ·show (S.2++[i]).Nodup
     rw [List.nodup_append]
     exact ⟨h.nd,by simp,fun a ha b hb=>by rw [List.mem_singleton.1 hb];exact fun e=>hni (e ▸ ha)⟩
    ·intro j hj
     rcases List.mem_append.1 hj with hj | hj
     ·exact h.lt j hj
     ·rw [List.mem_singleton.1 hj];exact hil
    ·intro j y hy
     show (S.1.set i x.gi)[j]? =_
     by_cases e:i=j
     ·subst e
      have ey:y=l[i]:=by rw [List.getElem?_eq_getElem hil] at hy;exact (Option.some.inj hy).symm
      rw [List.getElem?_set_self hi,if_pos (by simp),Option.some.inj h0,ey]
     ·rw [List.getElem?_set_ne e,h.get j y hy]
      have:j∈S.2++[i]↔j∈S.2:=by simp [Ne.symm e]
      simp only [this]
   ·exact h
theorem me.run {l:List av}(A:Dt→Option Nat)(who:Nat):∀ (cs:List Cm) {S:List av×List Nat},me l S→me l (bB A who S cs)
 | [],S,h=>h
 | c::cs,S,h=>me.run A who cs (h.step A who c)
def i_ (l:List av)(is:List Nat):List av:=is.filterMap fun i=>l[i]?
theorem sD (l:List av)(is:List Nat)(i:Nat)(x:av)(h:l[i]? =some x):i_ l (is++[i])=i_ l is++[x]:=by
 unfold i_;rw [List.filterMap_append];simp [h]
theorem uo {l:List av}:∀ {is:List Nat},(∀ i,i∈is→i<l.length)→(i_ l is).length=is.length
 | [],_=>rfl
 | i::is,h=>by
  have hi:i<l.length:=h i (by simp)
  have e:i_ l (i::is)=l[i]::i_ l is:=by unfold i_;simp [hi]
  rw [e,List.length_cons,List.length_cons,uo fun j hj=>h j (List.mem_cons_of_mem _ hj)]
def gj (l:List av):Nat:=l.foldl (fun t x=>(t+x.kn*x.cu) % 18446744073709551616) 0
theorem pY (l:List av)(x:av):gj (l++[x])=(gj l+x.kn*x.cu) % 18446744073709551616:=by unfold gj;rw [List.foldl_append];rfl
theorem El (l:List av):gj l<18446744073709551616:=by
 rcases List.eq_nil_or_concat l with h | ⟨m,x,h⟩
 ·rw [h];decide
 ·rw [h,List.concat_eq_append,pY];exact Nat.mod_lt _ (by decide)
theorem oZ (l:List av):gj l=(l.map fun x=>x.kn*x.cu).sum % 18446744073709551616:=by
 have H:∀ (l:List av) (t:Nat),l.foldl (fun t x=>(t+x.kn*x.cu) % 18446744073709551616) (t % 18446744073709551616)=(t+(l.map fun x=>x.kn*x.cu).sum) % 18446744073709551616:=by
  intro l
  induction l with
  | nil=>intro t;simp
  | cons x l ih=>
   intro t
   rw [List.foldl_cons,show (t % 18446744073709551616+x.kn*x.cu) % 18446744073709551616=(t+x.kn*x.cu) % 18446744073709551616 by omega,ih]
   rw [List.map_cons,List.sum_cons,Nat.add_assoc]
 have:=H l 0
 unfold gj
 simpa using this
theorem uq {l m:List av}(h:l.Perm m):gj l=gj m:=by
 rw [oZ,oZ,(h.map fun x=>x.kn*x.cu).sum_nat]
theorem wP {l :List av}(A:Dt→Option Nat)(who:Nat)(cs:List Cm){S:List av×List Nat}(hS:me l S):bB A who ((bB A who S cs).1,[]) cs=((bB A who S cs).1,[]):=by
  -- what may not be claimed stays so
  have stay : ∀ (cs:List Cm) (S:List av×List Nat) (c:Cm),(∀ i x,A c.line=some i→S.1[i]? =some x→iW x c.iU who=false)→∀ i x,A c.line=some i→(bB A who S cs).1[i]? =some x→iW x c.iU who=false:=by
    intro cs
    induction cs with
    | nil=>intro S c h;exact h
    | cons d cs ih=>
      intro S c h
      rw [nY]
      refine ih _ c fun i x hA hx=> ?_
      unfold eB at hx
      split at hx
      · exact h i x hA hx
      · rename_i j hj
        split at hx
        · exact h i x hA hx
        · rename_i y hy
          split at hx
          · by_cases e:j=i
            · subst e
              have hlt:j<S.1.length:=(List.getElem?_eq_some_iff.1 hy).1
              rw [List.getElem?_set_self hlt] at hx
              rw [← Option.some.inj hx];exact mc _ _ _
            · rw [List.getElem?_set_ne e] at hx
              exact h i x hA hx
          · exact h i x hA hx
  have all:∀ (cs:List Cm) (S:List av×List Nat) (c:Cm),c∈cs→∀ i x,A c.line=some i→(bB A who S cs).1[i]? =some x→iW x c.iU who=false:=by
    intro cs
    induction cs with
    | nil=>intro S c h;cases h
    | cons d cs ih=>
      intro S c h
      rw [nY]
      rcases List.mem_cons.1 h with rfl | h
      · refine stay cs _ c fun i x hA hx=> ?_
        unfold eB at hx
        rw [hA] at hx
        dsimp only at hx
        cases hy:S.1[i]? with
        | none=>rw [hy] at hx;dsimp only at hx;rw [hy] at hx;cases hx
        | some y=>
          rw [hy] at hx;dsimp only at hx
          by_cases hm:iW y c.iU who=true
          · rw [if_pos hm] at hx
            have hlt:i<S.1.length:=(List.getElem?_eq_some_iff.1 hy).1
            rw [List.getElem?_set_self hlt] at hx
            rw [← Option.some.inj hx];exact mc _ _ _
          · rw [if_neg hm,hy] at hx
            rw [← Option.some.inj hx];simpa using hm
      · exact ih _ c h
  have key:∀ (cs':List Cm) (L:List av),(∀ c,c∈cs'→∀ i x,A c.line=some i→L[i]? =some x→iW x c.iU who=false)→bB A who (L,[]) cs'=(L,[]):=by
    intro cs'
    induction cs' with
    | nil=>intro L _;rfl
    | cons d cs' ih=>
      intro L h
      rw [nY]
      have:eB A who (L,[]) d=(L,[]):=by
        unfold eB
        split
        · rfl
        · rename_i i hA
          split
          · rfl
          · rename_i x hx
            rw [if_neg (by rw [h d (by simp) i x hA hx];decide)]
      rw [this]
      exact ih L fun c hc=>h c (List.mem_cons_of_mem _ hc)
  exact key cs _ fun c hc=>all cs S c hc
theorem ur {l:List av}(A:Dt→Option Nat)(who:Nat):∀ (cs:List Cm) {S:List av×List Nat},me l S→(∀ i x,i∈S.2→l[i]? =some x→∃ v,iW x v who=true)→
  ∀ i x,i∈(bB A who S cs).2→l[i]? =some x→∃ v,iW x v who=true
 | [],S,hS,h=>h
 | c ::cs,S,hS,h=>by
  refine ur A who cs (hS.step A who c) ?_
  intro i x hi hx
  unfold eB at hi
  split at hi
  ·exact h i x hi hx
  ·rename_i j hA
   split at hi
   ·exact h i x hi hx
   ·rename_i y hy
    split at hi
    ·rename_i hm
     rcases List.mem_append.1 hi with hi | hi
     ·exact h i x hi hx
     ·rw [List.mem_singleton.1 hi] at hx
      have h0:=hS.get j x hx
      rw [hy] at h0
      have e:=Option.some.inj h0
      by_cases hin:j∈S.2
      ·rw [if_pos hin] at e;rw [e,mc] at hm;cases hm
      ·rw [if_neg hin] at e;exact ⟨c.iU,e ▸ hm⟩
    ·exact h i x hi hx
def Av (l:List av)(who:Nat)(c:Cm):Option Nat:=match ej l c.line with
 | none=>none
 | some i=>match l[i]? with
  | none=>none
  | some x=>if iW x c.iU who then some i else none
theorem Ca {l:List av}{who:Nat}{c:Cm}{i:Nat}(h:Av l who c=some i):∃ x,l[i]? =some x∧x.dot=c.line:=by
 unfold Av at h
 split at h
 ·cases h
 ·rename_i j hj
  split at h
  ·cases h
  ·rename_i y hy
   split at h
   ·rw [← Option.some.inj h];exact oW hj
   ·cases h
theorem yE {α:Type}{l:List α}{a:α}:(l++[a]).Nodup↔l.Nodup∧a∉l:=by
 rw [List.nodup_append]
 constructor
 ·rintro ⟨h1,_,h3⟩
  exact ⟨h1,fun ha=>h3 a ha a (by simp) rfl⟩
 ·rintro ⟨h1,h2⟩
  exact ⟨h1,by simp,fun x hx y hy e=>h2 (by rw [List.mem_singleton.1 hy] at e;exact e ▸ hx)⟩
theorem Fw {α:Type}{motive:List α→Prop}(nil:motive [])(snoc:∀ l x,motive l→motive (l++[x]))(l:List α):motive l:=by
 have key:∀ r:List α,motive r.reverse:=fun r=>by
  induction r with
  | nil=>exact nil
  | cons x r ih=>rw [List.reverse_cons];exact snoc _ _ ih
 simpa using key l.reverse
theorem sE (l:List av)(who:Nat)(cs:List Cm):(cs.map (·.line)).Nodup→(bB (ej l) who (l,[]) cs).2=cs.filterMap (Av l who):=by
 induction cs using Fw with
 | nil=>intro _;rfl
 | snoc cs c ih=>
  intro h
  rw [List.map_append,List.map_cons,List.map_nil,yE] at h
  have ih:=ih h.1
  have hS:me l (bB (ej l) who (l,[]) cs):=me.run _ _ cs (me.zero l)
  rw [sC,List.filterMap_append]
  generalize bB (ej l) who (l,[]) cs=S at ih hS ⊢
  have e:eB (ej l) who S c=match Av l who c with | none=>S | some i=>((eB (ej l) who S c).1,S.2++[i]):=by
   unfold Av eB
   cases hA:ej l c.line with
   | none=>rfl
   | some i=>
    dsimp only
    obtain ⟨x,hx,hd⟩:=oW hA
    have hni:i∉S.2:=fun hin=>by
     rw [ih,List.mem_filterMap] at hin
     obtain ⟨c',hc',h'⟩:=hin
     obtain ⟨y,hy,hyd⟩:=Ca h'
     rw [hx] at hy
     rw [← Option.some.inj hy,hd] at hyd
     exact h.2 (List.mem_map.2 ⟨c',hc',hyd.symm⟩)
    have h1:=hS.get i x hx
    rw [if_neg hni] at h1
    rw [h1,hx]
    dsimp only
    by_cases hm:iW x c.iU who=true
    ·rw [if_pos hm,if_pos hm]
    ·rw [if_neg hm,if_neg hm]
  rw [e]
  cases hh:Av l who c with
  | none=>simp [hh,ih]
  | some i=>simp [hh,ih]
theorem me.same {l:List av}{S T:List av×List Nat}(hS:me l S)(hT:me l T)(h:∀ i,i∈S.2↔i∈T.2):S.1=T.1:=by
 apply List.ext_getElem?
 intro i
 by_cases hi:i<l.length
 ·rw [hS.get i _ (List.getElem?_eq_getElem hi),hT.get i _ (List.getElem?_eq_getElem hi)]
  by_cases hm:i∈S.2
  ·rw [if_pos hm,if_pos ((h i).1 hm)]
  ·rw [if_neg hm,if_neg fun x=>hm ((h i).2 x)]
 ·rw [List.getElem?_eq_none (by rw [hS.len];omega),List.getElem?_eq_none (by rw [hT.len];omega)]
theorem vo (l:List av)(who:Nat)(cs:List Cm)(h:(cs.map (·.line)).Nodup):
  (bB (ej l) who (l,[]) cs.reverse).2=(bB (ej l) who (l,[]) cs).2.reverse∧(bB (ej l) who (l,[]) cs.reverse).1=(bB (ej l) who (l,[]) cs).1:=by
 have h':(cs.reverse.map (·.line)).Nodup:=by rw [List.map_reverse];exact (List.reverse_perm _).nodup_iff.2 h
 have e:(bB (ej l) who (l,[]) cs.reverse).2=(bB (ej l) who (l,[]) cs).2.reverse:=by
  rw [sE l who cs h,sE l who _ h',List.filterMap_reverse]
 refine ⟨e,me.same (me.run _ _ _ (me.zero l)) (me.run _ _ _ (me.zero l)) fun i=> ?_⟩
 rw [e,List.mem_reverse]
theorem tN (l:List av)(is:List Nat):i_ l is.reverse=(i_ l is).reverse:=by
 unfold i_;rw [List.filterMap_reverse]
theorem uu {l:List av}{is:List Nat}(hlt:∀ i,i∈is→i<l.length)(k:Nat):(i_ l is)[k]? =(is[k]?).bind fun i=>l[i]? :=by
 induction is generalizing k with
 | nil=>rfl
 | cons i is ih=>
  have hi:i<l.length:=hlt i (by simp)
  have e:i_ l (i::is)=l[i]::i_ l is:=by unfold i_;simp [hi]
  rw [e]
  cases k with
  | zero=>simp [hi]
  | succ k=>rw [List.getElem?_cons_succ,List.getElem?_cons_succ];exact ih (fun j hj=>hlt j (List.mem_cons_of_mem _ hj)) k
end
section
variable {P:Program}
theorem HSub.cons {F h:Hp}{n:Nat}{ob:Ob}(h1:lk h n=some ob)(h2:HSub F h):HSub ((n,ob)::F) h:=fun m iY hm=>by
 rw [ag] at hm
 split at hm
 ·rename_i e;subst e;injection hm with hm;subst hm;exact h1
 ·exact h2 m iY hm
theorem wrap_i64 (n:Int)(h: -9223372036854775808≤n∧n<9223372036854775808):IntKind.i64.wrap n=n:=vb n h.1 h.2
theorem ff (n:Int)(h:0≤n∧n<18446744073709551616):IntKind.u64.wrap n=n:=by
 have:=wrap_u64 n.toNat (by omega)
 rwa [show ((n.toNat:Nat):Int)=n by omega] at this
theorem wrap_u32' (n:Int)(h:0≤n∧n<4294967296):IntKind.u32.wrap n=n:=by
 have:=wrap_u32 n.toNat (by omega)
 rwa [show ((n.toNat:Nat):Int)=n by omega] at this
theorem wrap_u8' (n:Int)(h:0≤n∧n<256):IntKind.u8.wrap n=n:=by
 have:=wrap_u8 n.toNat (by omega)
 rwa [show ((n.toNat:Nat):Int)=n by omega] at this
theorem U:(true == true)=true:=rfl
theorem sF:(false == false)=true:=rfl
theorem Dt.yF (c:Dt)(a b:Int)(h:0≤a∧0≤b):bE (bE c.cells 0 [.d (.int .u8 a)]) 1 [.d (.int .u32 b)]=(Dt.mk a.toNat b.toNat).cells:=by
 have:=Dt.fZ c a.toNat b.toNat
 rwa [show ((a.toNat:Nat):Int)=a by omega,show ((b.toNat:Nat):Int)=b by omega] at this
theorem Dt.yG (c:Dt)(b:Int)(h:0≤b):bE c.cells 1 [.d (.int .u32 b)]=(Dt.mk c.r b.toNat).cells:=by
 rw [show b=((b.toNat:Nat):Int) by omega];rfl
theorem jC (n k:Nat):(n:Int)+(no_index (OfNat.ofNat k):Int)=((n+OfNat.ofNat k:Nat):Int):=rfl
theorem jD (n k:Nat):(n:Int)+(k:Int)=((n+k:Nat):Int):=rfl
def aa (L:List Nat)(st:St)(R:St→Prop):Prop:=R ⟨st.env.filter (fun x=>L.contains x.1),st.hp,st.k⟩
theorem aa.mk {L:List Nat}{env:List (Nat×SV)}{hp:Hp}{k:Nat}{R:St→Prop}{env':List (Nat×SV)}
  (he:env.filter (fun x=>L.contains x.1)=env':=by (simp only [jX,Nat.zero_add,Nat.reduceAdd,List.filter,List.contains_cons,List.contains_nil,Nat.reduceBEq,Bool.or_false,Bool.or_true,Bool.true_or,Bool.false_or,BEq.rfl,beq_self_eq_true] <;> with_reducible rfl)) (h:R ⟨env',hp,k⟩):aa L ⟨env,hp,k⟩ R:=by
 show R ⟨env.filter _,hp,k⟩;rw [he];exact h
theorem mg (L : List Nat):∀ (env:List (Nat×SV)) (t:Nat) (s:SV),(env.filter (fun x=>L.contains x.1)).lookup t=some s→env.lookup t=some s
  | [],t,s,h=>by simp at h
  | (u, x) :: env,t,s,h=>by
    simp only [List.filter] at h
    by_cases hu:L.contains u=true
    · rw [hu] at h
      simp only [List.lookup] at h ⊢
      split at h
      · exact h
      · exact mg L env t s h
    · rw [show L.contains u=false by simpa using hu] at h
      have h2:=mg L env t s h
      simp only [List.lookup]
      by_cases e:t=u
      · subst e
        exfalso
        have:∀ (env:List (Nat×SV)),(env.filter (fun x=>L.contains x.1)).lookup t=none:=by
          intro env
          induction env with
          | nil=>rfl
          | cons y env ih=>
            simp only [List.filter]
            by_cases hy:L.contains y.1=true
            · rw [hy]
              simp only [List.lookup]
              have:(t == y.1)=false:=by
                simp only [beq_eq_false_iff_ne];intro e;rw [← e] at hy;exact hu hy
              rw [this];exact ih
            · rw [show L.contains y.1=false by simpa using hy];exact ih
        rw [this] at h;cases h
      · rw [show (t == u)=false by simpa using e];exact h2
theorem SW.ai {N k0:Nat}{st:St}{Q:Exit→St→Prop}{ck:List SI}{bs:List Nat}{draw:Bool}(L:List Nat)(hm:P.follows .mixedOrders=true)(h:RW P ck st fun st' ts=>(!draw || kQ bs ts)=true∧aa L st' (Q .normal)):SW P N k0 (.eN ck bs draw) st Q:=by
 have h':RW P ck st fun st' ts=>(!draw || kQ bs ts)=true∧(fun e st'=>∃ st2,Q e st2∧st2=⟨st'.env.filter (fun x=>L.contains x.1),st'.hp,st'.k⟩) Exit.normal st':=by
  obtain ⟨dw,st',ob,ts,hr,ho,hn,hk⟩:=h
  exact ⟨dw,st',ob,ts,hr,ho,hn,_,hk,rfl⟩
 have:=SW.IY (N:=N) (k0:=k0) (bs:=bs) (draw:=draw) (Q:=fun e st'=>∃ st2,Q e st2∧st2=⟨st'.env.filter (fun x=>L.contains x.1),st'.hp,st'.k⟩) hm h'
 intro c hc rd hrf bT M0 w0 c0 a w eE
 refine wpIn_mono (this c hc rd hrf bT M0 w0 c0 a w eE) ?_
 rintro e a' w' ⟨st',⟨st2,hq,rfl⟩,hst'⟩
 obtain ⟨h1,h2,h3,μ,M,h4,h5,h6⟩:=hst'
 exact ⟨_,hq,h1,h2,h3,μ,M,fun t s hl=>h4 t s (mg L _ t s hl),h5,h6⟩
theorem SW.cut {N k0:Nat}{st:St}{Q:Exit→St→Prop}{x y:cG}(stM:St)(ρ:Nat→Nat)(h1:SW P N k0 x st fun e st'=>match e with | .normal=>bg k0 st' stM ρ | _=>False)(h2:SW P N k0 y stM Q):SW P N k0 (.seq x y) st Q:=by
 refine SW.seq (h1.mono fun e st' h=> ?_)
 cases e <;> first | exact h.elim | exact SW.weak ρ h h2
section
variable {ck rest r:List SI} {st st':St} {ob:Prop} {ts:List (Bool×List Nat)} {K:St→List (Bool×List Nat)→Prop}
theorem RW.ro {d:Nat}{op:SO}{g:Option (Nat×Bool)}{env:List (Nat×SV)}{hp F F':Hp}{k:Nat}{v:SV}{nk:Nat}{ob:Prop}{Φ:Prop}(φ:Φ)
  (hr:bZ op=true:=by rfl) (hc:fL op=false:=by rfl) (hb:uk op=false:=by rfl)
  (hg:g=none∨∃ t w,g=some (t,w)∧env.lookup t=some (.d (.bool w)):=by first | exact .inl rfl | exact .inr ⟨_,_,rfl,rfl⟩)
  (he:Φ→ek P ⟨env,hp,k⟩ op []=some (⟨v,F,F',nk,ob⟩,[]):=by
   intro φ
   simp (disch:=omega) only [Go.Sl.seg,jX,fL,ek,cQ,ev,qu,vU,jO,List.lookup,Nat.reduceBEq,Nat.reduceAdd,Nat.reduceMul,Nat.zero_add,SV.cells,if_true,if_false,reduceIte,Bool.false_eq_true,bZ,cH,dM,dN,iM,ia,dx,lk,List.filter,Nat.reduceBNe,bne_self_eq_false,eq_self,x_,xT,fP,tH,tI,BC,aS.cells_one,BEq.rfl,beq_self_eq_true,Bool.true_or,Nat.reduceEqDiff,List.map_cons,List.map_nil,List.nil_append,List.cons_append,List.append_nil,Int.toNat_natCast,Nat.mul_one,Nat.add_zero,gL,gJ,jj,gv,gw,gx,gy,gz,gA,jk,Option.isSome_some,Option.isSome_none,Option.isNone_some,Option.isNone_none,Nat.zero_ne_one,Nat.one_ne_zero,Bool.and_false,Bool.and_true,List.drop_zero,aS.aJ,aS.aP,aS.aW,Dt.cells_one,Dt.aP,Dt.yj,Dt.ym,Dt.aW,Dt.aJ,Dt.yF,Dt.yG,kL,dF,tJ,rG,List.all_cons,List.all_nil,SV.cL,Int.cast_ofNat_Int,Int.reduceBNe,Int.reduceBEq,Int.reduceLT,Int.reduceLE,Int.reduceGT,Int.reduceGE,kV,rU,rW,Bool.not_true,Bool.not_false,Bool.or_false,Bool.or_true,Bool.false_or,Bool.or_self,aS.nN,aS.yo,aS.rS,aS.rT,aS.cR,aS.cT,Dt.nN,Dt.yp,Dt.cR,Dt.cT,List.all_append,aS.wI,Dt.nE,Bool.cond_true,Bool.cond_false,wrap_i64,ff,wrap_u32',wrap_u8',U,sF,jC,jD,Int.reduceToNat,List.length_nil,List.getElem?_cons_zero,List.getElem?_cons_succ,List.take_succ_cons,List.take_zero,List.drop_succ_cons,decide_true,decide_false,Bool.true_and,Bool.and_self,Bool.false_and,je,kX,gX,iQ,iz,MM.dH,jt,nP,k9,lp,k7,k_,k8,lg,kZ,k6,aq.cells_one,aq.aP,aq.dO,aq.yq,aq.r7,aq.nQ,aq.jw,aq.r_,aq.gP,aq.Gk,aq.gB,aq.gC,aq.nR,aq.Gl,aq.nS,aq.jx,aq.m_,aq.gh,aq.jY,aq.sg,aq.sk,aq.aW,aq.aJ,Cr.cells_one,Cr.aP,Cr.dO,Cr.jw,Cr.yt,Cr.sn,Cr.gB,Cr.gC,Cr.nR,Cr.nT,Cr.aW,Cr.aJ,Cr.nE,lu,lz,lB,lC,av.cells_one,av.aP,av.dO,av.jx,av.m_,av.gh,av.nS,av.Fu,av.Fv,av.Gs,av.aW,av.Gt,av.Gu,av.Gv,av.jZ,av.nU,av.oV,av.yy,av.sA,av.yz,av.nV,av.yA,av.nW,av.nX,aG.all,aG.dO,aG.gP,aG.nQ,aG.Gy,aG.yC,aG.Gz,aG.yD,aG.fZ,Sp.cells_one,Sp.aP,Sp.dO,Sp.gN,Sp.aW,Sp.aJ,Sp.fZ,Sp.nE,lE,lD,φ]
   with_reducible rfl)
  (aZ:ob:=by first | trivial | (repeat' (first | exact trivial | omega | apply And.intro | (simp [-List.length_flatMap,-Int.natCast_add];done) | (simp [-List.length_flatMap,-Int.natCast_add] <;> omega))))
  (hk:nk=0:=by rfl)
  (h:RW P r ⟨(d,v)::env,hp,k⟩ fun st' ts=>K st' ((true,F.map (·.1)++F'.map (·.1))::ts)):RW P (⟨some d,op,g⟩::r) ⟨env,hp,k⟩ K:=RW.Gq hr hc hb hg (he φ) aZ hk h
theorem RW.op {d:Nat}{op:SO}{g:Option (Nat×Bool)}{env:List (Nat×SV)}{hp nq F F':Hp}{k k':Nat}{v:SV}{nk:Nat}{ob:Prop}{Φ:Prop}(φ:Φ)
  (hc:fL op=false:=by rfl)
  (hg:g=none∨∃ t w,g=some (t,w)∧env.lookup t=some (.d (.bool w)):=by first | exact .inl rfl | exact .inr ⟨_,_,rfl,rfl⟩)
  (he:Φ→ek P ⟨env,hp,k⟩ op []=some (⟨v,F,F',nk,ob⟩,[]):=by
   intro φ
   simp (disch:=omega) only [Go.Sl.seg,jX,fL,ek,cQ,ev,qu,vU,jO,List.lookup,Nat.reduceBEq,Nat.reduceAdd,Nat.reduceMul,Nat.zero_add,SV.cells,if_true,if_false,reduceIte,Bool.false_eq_true,bZ,cH,dM,dN,iM,ia,dx,lk,List.filter,Nat.reduceBNe,bne_self_eq_false,eq_self,x_,xT,fP,tH,tI,BC,aS.cells_one,BEq.rfl,beq_self_eq_true,Bool.true_or,Nat.reduceEqDiff,List.map_cons,List.map_nil,List.nil_append,List.cons_append,List.append_nil,Int.toNat_natCast,Nat.mul_one,Nat.add_zero,gL,gJ,jj,gv,gw,gx,gy,gz,gA,jk,Option.isSome_some,Option.isSome_none,Option.isNone_some,Option.isNone_none,Nat.zero_ne_one,Nat.one_ne_zero,Bool.and_false,Bool.and_true,List.drop_zero,aS.aJ,aS.aP,aS.aW,Dt.cells_one,Dt.aP,Dt.yj,Dt.ym,Dt.aW,Dt.aJ,Dt.yF,Dt.yG,kL,dF,tJ,rG,List.all_cons,List.all_nil,SV.cL,Int.cast_ofNat_Int,Int.reduceBNe,Int.reduceBEq,Int.reduceLT,Int.reduceLE,Int.reduceGT,Int.reduceGE,kV,rU,rW,Bool.not_true,Bool.not_false,Bool.or_false,Bool.or_true,Bool.false_or,Bool.or_self,aS.nN,aS.yo,aS.rS,aS.rT,aS.cR,aS.cT,Dt.nN,Dt.yp,Dt.cR,Dt.cT,List.all_append,aS.wI,Dt.nE,Bool.cond_true,Bool.cond_false,wrap_i64,ff,wrap_u32',wrap_u8',U,sF,jC,jD,Int.reduceToNat,List.length_nil,List.getElem?_cons_zero,List.getElem?_cons_succ,List.take_succ_cons,List.take_zero,List.drop_succ_cons,decide_true,decide_false,Bool.true_and,Bool.and_self,Bool.false_and,je,kX,gX,iQ,iz,MM.dH,jt,nP,k9,lp,k7,k_,k8,lg,kZ,k6,aq.cells_one,aq.aP,aq.dO,aq.yq,aq.r7,aq.nQ,aq.jw,aq.r_,aq.gP,aq.Gk,aq.gB,aq.gC,aq.nR,aq.Gl,aq.nS,aq.jx,aq.m_,aq.gh,aq.jY,aq.sg,aq.sk,aq.aW,aq.aJ,Cr.cells_one,Cr.aP,Cr.dO,Cr.jw,Cr.yt,Cr.sn,Cr.gB,Cr.gC,Cr.nR,Cr.nT,Cr.aW,Cr.aJ,Cr.nE,lu,lz,lB,lC,av.cells_one,av.aP,av.dO,av.jx,av.m_,av.gh,av.nS,av.Fu,av.Fv,av.Gs,av.aW,av.Gt,av.Gu,av.Gv,av.jZ,av.nU,av.oV,av.yy,av.sA,av.yz,av.nV,av.yA,av.nW,av.nX,aG.all,aG.dO,aG.gP,aG.nQ,aG.Gy,aG.yC,aG.Gz,aG.yD,aG.fZ,Sp.cells_one,Sp.aP,Sp.dO,Sp.gN,Sp.aW,Sp.aJ,Sp.fZ,Sp.nE,lE,lD,φ]
   with_reducible rfl)
  (aZ:ob:=by first | trivial | (repeat' (first | exact trivial | omega | apply And.intro | (simp [-List.length_flatMap,-Int.natCast_add];done) | (simp [-List.length_flatMap,-Int.natCast_add] <;> omega))))
  (hh:Φ→cH (bZ op) hp F F'=nq:=by (intro φ;simp only [φ,bZ,cH,dM,dN,iM,ia,dx,lk,List.lookup,Nat.reduceBEq,BEq.rfl,beq_self_eq_true,if_true,if_false,reduceIte,Nat.reduceEqDiff,Bool.false_eq_true,Option.isSome_some,Option.isSome_none] <;> with_reducible rfl))
  (hk:k+nk=k':=by first | (simp only [Nat.add_zero,Nat.reduceAdd] <;> rfl) | rfl)
  (h:RW P r ⟨(d,v)::env,nq,k'⟩ fun st' ts=>K st' ((bZ op,F.map (·.1)++F'.map (·.1))::ts)):RW P (⟨some d,op,g⟩::r) ⟨env,hp,k⟩ K:=RW.B5 hc hg (he φ) aZ (hh φ) hk h
theorem RW.aF {op:SO}{g:Option (Nat×Bool)}{env:List (Nat×SV)}{hp nq F F':Hp}{k k':Nat}{v:SV}{nk:Nat}{ob:Prop}{Φ:Prop}(φ:Φ)
  (hc:fL op=false:=by rfl)
  (hg:g=none∨∃ t w,g=some (t,w)∧env.lookup t=some (.d (.bool w)):=by first | exact .inl rfl | exact .inr ⟨_,_,rfl,rfl⟩)
  (he:Φ→ek P ⟨env,hp,k⟩ op []=some (⟨v,F,F',nk,ob⟩,[]):=by
   intro φ
   simp (disch:=omega) only [Go.Sl.seg,jX,fL,ek,cQ,ev,qu,vU,jO,List.lookup,Nat.reduceBEq,Nat.reduceAdd,Nat.reduceMul,Nat.zero_add,SV.cells,if_true,if_false,reduceIte,Bool.false_eq_true,bZ,cH,dM,dN,iM,ia,dx,lk,List.filter,Nat.reduceBNe,bne_self_eq_false,eq_self,x_,xT,fP,tH,tI,BC,aS.cells_one,BEq.rfl,beq_self_eq_true,Bool.true_or,Nat.reduceEqDiff,List.map_cons,List.map_nil,List.nil_append,List.cons_append,List.append_nil,Int.toNat_natCast,Nat.mul_one,Nat.add_zero,gL,gJ,jj,gv,gw,gx,gy,gz,gA,jk,Option.isSome_some,Option.isSome_none,Option.isNone_some,Option.isNone_none,Nat.zero_ne_one,Nat.one_ne_zero,Bool.and_false,Bool.and_true,List.drop_zero,aS.aJ,aS.aP,aS.aW,Dt.cells_one,Dt.aP,Dt.yj,Dt.ym,Dt.aW,Dt.aJ,Dt.yF,Dt.yG,kL,dF,tJ,rG,List.all_cons,List.all_nil,SV.cL,Int.cast_ofNat_Int,Int.reduceBNe,Int.reduceBEq,Int.reduceLT,Int.reduceLE,Int.reduceGT,Int.reduceGE,kV,rU,rW,Bool.not_true,Bool.not_false,Bool.or_false,Bool.or_true,Bool.false_or,Bool.or_self,aS.nN,aS.yo,aS.rS,aS.rT,aS.cR,aS.cT,Dt.nN,Dt.yp,Dt.cR,Dt.cT,List.all_append,aS.wI,Dt.nE,Bool.cond_true,Bool.cond_false,wrap_i64,ff,wrap_u32',wrap_u8',U,sF,jC,jD,Int.reduceToNat,List.length_nil,List.getElem?_cons_zero,List.getElem?_cons_succ,List.take_succ_cons,List.take_zero,List.drop_succ_cons,decide_true,decide_false,Bool.true_and,Bool.and_self,Bool.false_and,je,kX,gX,iQ,iz,MM.dH,jt,nP,k9,lp,k7,k_,k8,lg,kZ,k6,aq.cells_one,aq.aP,aq.dO,aq.yq,aq.r7,aq.nQ,aq.jw,aq.r_,aq.gP,aq.Gk,aq.gB,aq.gC,aq.nR,aq.Gl,aq.nS,aq.jx,aq.m_,aq.gh,aq.jY,aq.sg,aq.sk,aq.aW,aq.aJ,Cr.cells_one,Cr.aP,Cr.dO,Cr.jw,Cr.yt,Cr.sn,Cr.gB,Cr.gC,Cr.nR,Cr.nT,Cr.aW,Cr.aJ,Cr.nE,lu,lz,lB,lC,av.cells_one,av.aP,av.dO,av.jx,av.m_,av.gh,av.nS,av.Fu,av.Fv,av.Gs,av.aW,av.Gt,av.Gu,av.Gv,av.jZ,av.nU,av.oV,av.yy,av.sA,av.yz,av.nV,av.yA,av.nW,av.nX,aG.all,aG.dO,aG.gP,aG.nQ,aG.Gy,aG.yC,aG.Gz,aG.yD,aG.fZ,Sp.cells_one,Sp.aP,Sp.dO,Sp.gN,Sp.aW,Sp.aJ,Sp.fZ,Sp.nE,lE,lD,φ]
   with_reducible rfl)
  (aZ:ob:=by first | trivial | (repeat' (first | exact trivial | omega | apply And.intro | (simp [-List.length_flatMap,-Int.natCast_add];done) | (simp [-List.length_flatMap,-Int.natCast_add] <;> omega))))
  (hh:Φ→cH (bZ op) hp F F'=nq:=by (intro φ;simp only [φ,bZ,cH,dM,dN,iM,ia,dx,lk,List.lookup,Nat.reduceBEq,BEq.rfl,beq_self_eq_true,if_true,if_false,reduceIte,Nat.reduceEqDiff,Bool.false_eq_true,Option.isSome_some,Option.isSome_none] <;> with_reducible rfl))
  (hk:k+nk=k':=by first | (simp only [Nat.add_zero,Nat.reduceAdd] <;> rfl) | rfl)
  (h:RW P r ⟨env,nq,k'⟩ fun st' ts=>K st' ((bZ op,F.map (·.1)++F'.map (·.1))::ts)):RW P (⟨none,op,g⟩::r) ⟨env,hp,k⟩ K:=RW.B5 hc hg (he φ) aZ (hh φ) hk h
theorem RW.lit {d:Nat}{e sz len:Nat}{z:List SV}{parts:List (Nat×Nat×X)}{g:Option (Nat×Bool)}{env:List (Nat×SV)}{hp nq F F':Hp}{k k':Nat}{v:SV}{nk:Nat}{ob:Prop}{Φ:Prop}(φ:Φ)
  (hg:g=none∨∃ t w,g=some (t,w)∧env.lookup t=some (.d (.bool w)):=by first | exact .inl rfl | exact .inr ⟨_,_,rfl,rfl⟩)
  (he:Φ→ek P ⟨env,hp,k⟩ (.jL e sz len z parts) [.own]=some (⟨v,F,F',nk,ob⟩,[]):=by
   intro φ
   simp (disch:=omega) only [Go.Sl.seg,jX,fL,ek,cQ,ev,qu,vU,jO,List.lookup,Nat.reduceBEq,Nat.reduceAdd,Nat.reduceMul,Nat.zero_add,SV.cells,if_true,if_false,reduceIte,Bool.false_eq_true,bZ,cH,dM,dN,iM,ia,dx,lk,List.filter,Nat.reduceBNe,bne_self_eq_false,eq_self,x_,xT,fP,tH,tI,BC,aS.cells_one,BEq.rfl,beq_self_eq_true,Bool.true_or,Nat.reduceEqDiff,List.map_cons,List.map_nil,List.nil_append,List.cons_append,List.append_nil,Int.toNat_natCast,Nat.mul_one,Nat.add_zero,gL,gJ,jj,gv,gw,gx,gy,gz,gA,jk,Option.isSome_some,Option.isSome_none,Option.isNone_some,Option.isNone_none,Nat.zero_ne_one,Nat.one_ne_zero,Bool.and_false,Bool.and_true,List.drop_zero,aS.aJ,aS.aP,aS.aW,Dt.cells_one,Dt.aP,Dt.yj,Dt.ym,Dt.aW,Dt.aJ,Dt.yF,Dt.yG,kL,dF,tJ,rG,List.all_cons,List.all_nil,SV.cL,Int.cast_ofNat_Int,Int.reduceBNe,Int.reduceBEq,Int.reduceLT,Int.reduceLE,Int.reduceGT,Int.reduceGE,kV,rU,rW,Bool.not_true,Bool.not_false,Bool.or_false,Bool.or_true,Bool.false_or,Bool.or_self,aS.nN,aS.yo,aS.rS,aS.rT,aS.cR,aS.cT,Dt.nN,Dt.yp,Dt.cR,Dt.cT,List.all_append,aS.wI,Dt.nE,Bool.cond_true,Bool.cond_false,wrap_i64,ff,wrap_u32',wrap_u8',U,sF,jC,jD,Int.reduceToNat,List.length_nil,List.getElem?_cons_zero,List.getElem?_cons_succ,List.take_succ_cons,List.take_zero,List.drop_succ_cons,decide_true,decide_false,Bool.true_and,Bool.and_self,Bool.false_and,je,kX,gX,iQ,iz,MM.dH,jt,nP,k9,lp,k7,k_,k8,lg,kZ,k6,aq.cells_one,aq.aP,aq.dO,aq.yq,aq.r7,aq.nQ,aq.jw,aq.r_,aq.gP,aq.Gk,aq.gB,aq.gC,aq.nR,aq.Gl,aq.nS,aq.jx,aq.m_,aq.gh,aq.jY,aq.sg,aq.sk,aq.aW,aq.aJ,Cr.cells_one,Cr.aP,Cr.dO,Cr.jw,Cr.yt,Cr.sn,Cr.gB,Cr.gC,Cr.nR,Cr.nT,Cr.aW,Cr.aJ,Cr.nE,lu,lz,lB,lC,av.cells_one,av.aP,av.dO,av.jx,av.m_,av.gh,av.nS,av.Fu,av.Fv,av.Gs,av.aW,av.Gt,av.Gu,av.Gv,av.jZ,av.nU,av.oV,av.yy,av.sA,av.yz,av.nV,av.yA,av.nW,av.nX,aG.all,aG.dO,aG.gP,aG.nQ,aG.Gy,aG.yC,aG.Gz,aG.yD,aG.fZ,Sp.cells_one,Sp.aP,Sp.dO,Sp.gN,Sp.aW,Sp.aJ,Sp.fZ,Sp.nE,lE,lD,φ]
   with_reducible rfl)
  (aZ:ob:=by first | trivial | (repeat' (first | exact trivial | omega | apply And.intro | (simp [-List.length_flatMap,-Int.natCast_add];done) | (simp [-List.length_flatMap,-Int.natCast_add] <;> omega))))
  (hh:Φ→cH false hp F F'=nq:=by (intro φ;simp only [φ,bZ,cH,dM,dN,iM,ia,dx,lk,List.lookup,Nat.reduceBEq,BEq.rfl,beq_self_eq_true,if_true,if_false,reduceIte,Nat.reduceEqDiff,Bool.false_eq_true,Option.isSome_some,Option.isSome_none] <;> with_reducible rfl))
  (hk:k+nk=k':=by first | (simp only [Nat.add_zero,Nat.reduceAdd] <;> rfl) | rfl)
  (h:RW P r ⟨(d,v)::env,nq,k'⟩ fun st' ts=>K st' ((false,F.map (·.1)++F'.map (·.1))::ts)):RW P (⟨some d,.jL e sz len z parts,g⟩::r) ⟨env,hp,k⟩ K:=RW.Ek hg (he φ) aZ (hh φ) hk h
theorem RW.skip {d:Nat}{op:SO}{t:Nat}{w:Bool}{env:List (Nat×SV)}{hp:Hp}{k:Nat}{s:SV}
  (hg:env.lookup t=some s:=by rfl) (hs:kf w s=true:=by rfl)
  (h:RW P r ⟨(d,.cg [])::env,hp,k⟩ fun st' ts=>K st' ((bZ op,[])::ts)):RW P (⟨some d,op,some (t,w)⟩::r) ⟨env,hp,k⟩ K:=RW.B6 hg hs h
theorem RW.ah {op:SO}{t:Nat}{w:Bool}{env:List (Nat×SV)}{hp:Hp}{k:Nat}{s:SV}
  (hg:env.lookup t=some s:=by rfl) (hs:kf w s=true:=by rfl)
  (h:RW P r ⟨env,hp,k⟩ fun st' ts=>K st' ((bZ op,[])::ts)):RW P (⟨none,op,some (t,w)⟩::r) ⟨env,hp,k⟩ K:=RW.Ar hg hs h
def af (P:Program)(fid:FuncId)(as':List SV)(d:Option Nat)(r:List SI)(env:List (Nat×SV))(hp:Hp)(k:Nat)(K:St→List (Bool×List Nat)→Prop):Prop:=
 ∃ F F' v nk,bp P fid as' F k nk v F'∧HSub F hp∧RW P r ⟨oU d v env,cH false hp F F',k+nk⟩ fun st' ts=>K st' ((false,F.map (·.1)++F'.map (·.1))::ts)
theorem RW.ax {d:Option Nat}{f:X}{args:List X}{g:Option (Nat×Bool)}{fid:FuncId}{as first cap as':List SV}{env:List (Nat×SV)}{hp:Hp}{k:Nat}
  (hf:ev (fun t=>env.lookup t) f=some (.fn (.func fid) first cap):=by (simp only [ev,List.lookup,Nat.reduceBEq] <;> rfl))
  (ha:qu (fun t=>env.lookup t) args=some as:=by (simp only [ev,qu,List.lookup,Nat.reduceBEq] <;> rfl))
  (has:first++as++cap=as':=by first | (simp only [List.nil_append,List.cons_append,List.append_nil] <;> rfl) | rfl)
  (hg:g=none∨∃ t w,g=some (t,w)∧env.lookup t=some (.d (.bool w)):=by first | exact .inl rfl | exact .inr ⟨_,_,rfl,rfl⟩)
  (h:af P fid as' d r env hp k K):RW P (⟨d,.call f args,g⟩::r) ⟨env,hp,k⟩ K:=by
 obtain ⟨F,F',v,nk,hc,hs,h⟩:=h
 exact RW.B7 hf ha has hc hs hg h
theorem af.mk {fid:FuncId}{as':List SV}{F F' nq:Hp}{v v':SV}{nk k':Nat}{d:Nat}{env:List (Nat×SV)}{hp:Hp}{k:Nat}{Φ:Prop}(φ:Φ)
  (hs:HSub F hp:=by first | exact HSub.nil _ | (repeat (first | exact HSub.nil _ | refine HSub.cons (by rfl) ?_)))
  (hc:bp P fid as' F k nk v F')
  (hv:Φ→v=v':=by intro φ;first | ((simp only [φ]) <;> with_reducible rfl) | with_reducible rfl)
  (hh:Φ→cH false hp F F'=nq:=by (intro φ;simp only [φ,bZ,cH,dM,dN,iM,ia,dx,lk,List.lookup,Nat.reduceBEq,BEq.rfl,beq_self_eq_true,if_true,if_false,reduceIte,Nat.reduceEqDiff,Bool.false_eq_true,Option.isSome_some,Option.isSome_none] <;> with_reducible rfl))
  (hk:k+nk=k':=by first | (simp only [Nat.add_zero,Nat.reduceAdd] <;> rfl) | rfl)
  (h:RW P r ⟨(d,v')::env,nq,k'⟩ fun st' ts=>K st' ((false,F.map (·.1)++F'.map (·.1))::ts)):af P fid as' (some d) r env hp k K:=⟨F,F',v,nk,hc,hs,by rw [hv φ,hh φ,hk];exact h⟩
end
section
variable {N k0:Nat} {r:List SI} {K:St→Prop}
theorem dX.op {d:Nat}{op:SO}{g:Option (Nat×Bool)}{env:List (Nat×SV)}{hp nq F F':Hp}{k k':Nat}{v:SV}{nk:Nat}{ob:Prop}{Φ:Prop}(φ:Φ)
  (hg:g=none∨∃ t w,g=some (t,w)∧env.lookup t=some (.d (.bool w)):=by first | exact .inl rfl | exact .inr ⟨_,_,rfl,rfl⟩)
  (he:Φ→ek P ⟨env,hp,k⟩ op []=some (⟨v,F,F',nk,ob⟩,[]):=by
   intro φ
   simp (disch:=omega) only [Go.Sl.seg,jX,fL,ek,cQ,ev,qu,vU,jO,List.lookup,Nat.reduceBEq,Nat.reduceAdd,Nat.reduceMul,Nat.zero_add,SV.cells,if_true,if_false,reduceIte,Bool.false_eq_true,bZ,cH,dM,dN,iM,ia,dx,lk,List.filter,Nat.reduceBNe,bne_self_eq_false,eq_self,x_,xT,fP,tH,tI,BC,aS.cells_one,BEq.rfl,beq_self_eq_true,Bool.true_or,Nat.reduceEqDiff,List.map_cons,List.map_nil,List.nil_append,List.cons_append,List.append_nil,Int.toNat_natCast,Nat.mul_one,Nat.add_zero,gL,gJ,jj,gv,gw,gx,gy,gz,gA,jk,Option.isSome_some,Option.isSome_none,Option.isNone_some,Option.isNone_none,Nat.zero_ne_one,Nat.one_ne_zero,Bool.and_false,Bool.and_true,List.drop_zero,aS.aJ,aS.aP,aS.aW,Dt.cells_one,Dt.aP,Dt.yj,Dt.ym,Dt.aW,Dt.aJ,Dt.yF,Dt.yG,kL,dF,tJ,rG,List.all_cons,List.all_nil,SV.cL,Int.cast_ofNat_Int,Int.reduceBNe,Int.reduceBEq,Int.reduceLT,Int.reduceLE,Int.reduceGT,Int.reduceGE,kV,rU,rW,Bool.not_true,Bool.not_false,Bool.or_false,Bool.or_true,Bool.false_or,Bool.or_self,aS.nN,aS.yo,aS.rS,aS.rT,aS.cR,aS.cT,Dt.nN,Dt.yp,Dt.cR,Dt.cT,List.all_append,aS.wI,Dt.nE,Bool.cond_true,Bool.cond_false,wrap_i64,ff,wrap_u32',wrap_u8',U,sF,jC,jD,Int.reduceToNat,List.length_nil,List.getElem?_cons_zero,List.getElem?_cons_succ,List.take_succ_cons,List.take_zero,List.drop_succ_cons,decide_true,decide_false,Bool.true_and,Bool.and_self,Bool.false_and,je,kX,gX,iQ,iz,MM.dH,jt,nP,k9,lp,k7,k_,k8,lg,kZ,k6,aq.cells_one,aq.aP,aq.dO,aq.yq,aq.r7,aq.nQ,aq.jw,aq.r_,aq.gP,aq.Gk,aq.gB,aq.gC,aq.nR,aq.Gl,aq.nS,aq.jx,aq.m_,aq.gh,aq.jY,aq.sg,aq.sk,aq.aW,aq.aJ,Cr.cells_one,Cr.aP,Cr.dO,Cr.jw,Cr.yt,Cr.sn,Cr.gB,Cr.gC,Cr.nR,Cr.nT,Cr.aW,Cr.aJ,Cr.nE,lu,lz,lB,lC,av.cells_one,av.aP,av.dO,av.jx,av.m_,av.gh,av.nS,av.Fu,av.Fv,av.Gs,av.aW,av.Gt,av.Gu,av.Gv,av.jZ,av.nU,av.oV,av.yy,av.sA,av.yz,av.nV,av.yA,av.nW,av.nX,aG.all,aG.dO,aG.gP,aG.nQ,aG.Gy,aG.yC,aG.Gz,aG.yD,aG.fZ,Sp.cells_one,Sp.aP,Sp.dO,Sp.gN,Sp.aW,Sp.aJ,Sp.fZ,Sp.nE,lE,lD,φ]
   with_reducible rfl)
  (aZ:ob:=by first | trivial | (repeat' (first | exact trivial | omega | apply And.intro | (simp [-List.length_flatMap,-Int.natCast_add];done) | (simp [-List.length_flatMap,-Int.natCast_add] <;> omega))))
  (hh:Φ→cH (bZ op) hp F F'=nq:=by (intro φ;simp only [φ,bZ,cH,dM,dN,iM,ia,dx,lk,List.lookup,Nat.reduceBEq,BEq.rfl,beq_self_eq_true,if_true,if_false,reduceIte,Nat.reduceEqDiff,Bool.false_eq_true,Option.isSome_some,Option.isSome_none] <;> with_reducible rfl))
  (hk:k+nk=k':=by first | (simp only [Nat.add_zero,Nat.reduceAdd] <;> rfl) | rfl)
  (h:dX P N k0 r ⟨(d,v)::env,nq,k'⟩ K):dX P N k0 (⟨some d,op,g⟩::r) ⟨env,hp,k⟩ K:=by
 refine dX.one (eP hg (he φ)) aZ ?_
 rw [iV,hh φ,hk];exact h
theorem dX.aF {op:SO}{g:Option (Nat×Bool)}{env:List (Nat×SV)}{hp nq F F':Hp}{k k':Nat}{v:SV}{nk:Nat}{ob:Prop}{Φ:Prop}(φ:Φ)
  (hg:g=none∨∃ t w,g=some (t,w)∧env.lookup t=some (.d (.bool w)):=by first | exact .inl rfl | exact .inr ⟨_,_,rfl,rfl⟩)
  (he:Φ→ek P ⟨env,hp,k⟩ op []=some (⟨v,F,F',nk,ob⟩,[]):=by
   intro φ
   simp (disch:=omega) only [Go.Sl.seg,jX,fL,ek,cQ,ev,qu,vU,jO,List.lookup,Nat.reduceBEq,Nat.reduceAdd,Nat.reduceMul,Nat.zero_add,SV.cells,if_true,if_false,reduceIte,Bool.false_eq_true,bZ,cH,dM,dN,iM,ia,dx,lk,List.filter,Nat.reduceBNe,bne_self_eq_false,eq_self,x_,xT,fP,tH,tI,BC,aS.cells_one,BEq.rfl,beq_self_eq_true,Bool.true_or,Nat.reduceEqDiff,List.map_cons,List.map_nil,List.nil_append,List.cons_append,List.append_nil,Int.toNat_natCast,Nat.mul_one,Nat.add_zero,gL,gJ,jj,gv,gw,gx,gy,gz,gA,jk,Option.isSome_some,Option.isSome_none,Option.isNone_some,Option.isNone_none,Nat.zero_ne_one,Nat.one_ne_zero,Bool.and_false,Bool.and_true,List.drop_zero,aS.aJ,aS.aP,aS.aW,Dt.cells_one,Dt.aP,Dt.yj,Dt.ym,Dt.aW,Dt.aJ,Dt.yF,Dt.yG,kL,dF,tJ,rG,List.all_cons,List.all_nil,SV.cL,Int.cast_ofNat_Int,Int.reduceBNe,Int.reduceBEq,Int.reduceLT,Int.reduceLE,Int.reduceGT,Int.reduceGE,kV,rU,rW,Bool.not_true,Bool.not_false,Bool.or_false,Bool.or_true,Bool.false_or,Bool.or_self,aS.nN,aS.yo,aS.rS,aS.rT,aS.cR,aS.cT,Dt.nN,Dt.yp,Dt.cR,Dt.cT,List.all_append,aS.wI,Dt.nE,Bool.cond_true,Bool.cond_false,wrap_i64,ff,wrap_u32',wrap_u8',U,sF,jC,jD,Int.reduceToNat,List.length_nil,List.getElem?_cons_zero,List.getElem?_cons_succ,List.take_succ_cons,List.take_zero,List.drop_succ_cons,decide_true,decide_false,Bool.true_and,Bool.and_self,Bool.false_and,je,kX,gX,iQ,iz,MM.dH,jt,nP,k9,lp,k7,k_,k8,lg,kZ,k6,aq.cells_one,aq.aP,aq.dO,aq.yq,aq.r7,aq.nQ,aq.jw,aq.r_,aq.gP,aq.Gk,aq.gB,aq.gC,aq.nR,aq.Gl,aq.nS,aq.jx,aq.m_,aq.gh,aq.jY,aq.sg,aq.sk,aq.aW,aq.aJ,Cr.cells_one,Cr.aP,Cr.dO,Cr.jw,Cr.yt,Cr.sn,Cr.gB,Cr.gC,Cr.nR,Cr.nT,Cr.aW,Cr.aJ,Cr.nE,lu,lz,lB,lC,av.cells_one,av.aP,av.dO,av.jx,av.m_,av.gh,av.nS,av.Fu,av.Fv,av.Gs,av.aW,av.Gt,av.Gu,av.Gv,av.jZ,av.nU,av.oV,av.yy,av.sA,av.yz,av.nV,av.yA,av.nW,av.nX,aG.all,aG.dO,aG.gP,aG.nQ,aG.Gy,aG.yC,aG.Gz,aG.yD,aG.fZ,Sp.cells_one,Sp.aP,Sp.dO,Sp.gN,Sp.aW,Sp.aJ,Sp.fZ,Sp.nE,lE,lD,φ]
   with_reducible rfl)
  (aZ:ob:=by first | trivial | (repeat' (first | exact trivial | omega | apply And.intro | (simp [-List.length_flatMap,-Int.natCast_add];done) | (simp [-List.length_flatMap,-Int.natCast_add] <;> omega))))
  (hh:Φ→cH (bZ op) hp F F'=nq:=by (intro φ;simp only [φ,bZ,cH,dM,dN,iM,ia,dx,lk,List.lookup,Nat.reduceBEq,BEq.rfl,beq_self_eq_true,if_true,if_false,reduceIte,Nat.reduceEqDiff,Bool.false_eq_true,Option.isSome_some,Option.isSome_none] <;> with_reducible rfl))
  (hk:k+nk=k':=by first | (simp only [Nat.add_zero,Nat.reduceAdd] <;> rfl) | rfl)
  (h:dX P N k0 r ⟨env,nq,k'⟩ K):dX P N k0 (⟨none,op,g⟩::r) ⟨env,hp,k⟩ K:=by
 refine dX.one (eP hg (he φ)) aZ ?_
 rw [iV,hh φ,hk];exact h
theorem dX.skip {d:Nat}{op:SO}{t:Nat}{w:Bool}{env:List (Nat×SV)}{hp:Hp}{k:Nat}{s:SV}
  (hg:env.lookup t=some s:=by rfl) (hs:kf w s=true:=by rfl)
  (h:dX P N k0 r ⟨(d,.cg [])::env,hp,k⟩ K):dX P N k0 (⟨some d,op,some (t,w)⟩::r) ⟨env,hp,k⟩ K:=by
 have hh:cH (bZ op) hp [] []=hp:=by unfold cH;split <;> rfl
 refine dX.one (e:=⟨.cg [],[],[],0,True⟩) (dw:=[]) (c2:=[]) ?_ trivial ?_
 ·unfold kf at hs
  split at hs
  ·simp only [eX,hg];rw [if_neg (by simpa using hs)]
  ·simp only [eX,hg]
  ·cases hs
 ·rw [iV]
  show dX P N k0 r ⟨(d,.cg [])::env,cH (bZ op) hp [] [],k+0⟩ _
  rw [hh];exact h
end
theorem SB.mono {f:FuncId}{args:List SV}{F:Hp}{k nk:Nat}{Q Q':SV→Hp→Prop}(h:SB P f args F k nk Q)(hq:∀ r F,Q r F→Q' r F):SB P f args F k nk Q':=
 ⟨h.1,h.2.1,h.2.2.1,fun μ M w vals h1 h2=>(h.2.2.2 μ M w vals h1 h2).mono fun _ _ ⟨r,F',aY,M',u,e,hQ,x⟩=>⟨r,F',aY,M',u,e,hq r F' hQ,x⟩⟩
theorem SB.args {f:FuncId}{args args':List SV}{F:Hp}{k nk:Nat}{Q:SV→Hp→Prop}(h:SB P f args F k nk Q)(hok:SV.aI (fun n=>decide (n<k)) args'=true)
  (ha:∀ (p:Nat→Prop) (μ:Nat→Nm) (M:Mem) (vs:List Value),aM p μ M args' vs→aM p μ M args vs):SB P f args' F k nk Q:=
 ⟨h.1,hok,h.2.2.1,fun μ M w vals h1 h2=>h.2.2.2 μ M w vals (ha _ μ M _ h1) h2⟩
theorem End.mk {k nk:Nat}{va:List RV}{Q:SV→Hp→Prop}{st:St}{ss:List SV}{ob:Prop}(F':Hp)
  (h1:BV st va=some (ss,ob):=by rfl)
  (h2:ob:=by simp [xT])
  (h3:HSub F' st.hp:=by first | exact HSub.nil _ | (repeat (first | exact HSub.nil _ | refine HSub.cons (by rfl) ?_)))
  (h4:Q (eF ss) F')
  (h5:(eF ss).ok (fun n=>decide (n<k+nk))=true:=by first | rfl | simp [eF,SV.ok,SV.aI,aS.aj,SV.bt])
  (h6:F'.ok (fun n=>decide (n<k+nk))=true:=by first | rfl | simp [Hp.ok,Ob.ok,SV.ok,SV.aI,aS.aj,SV.bt])
  (h7:k+nk≤st.k:=by simp):Go.Sl.Fin k nk va Q st:=⟨ss,ob,F',h1,h2,h3,h4,h5,h6,h7⟩
theorem SW.au {N k0:Nat}{st:St}{Q:Exit→St→Prop}{x:X}{y z:cG}(hx:ev (fun t=>st.env.lookup t) x=some (.d (.bool true)))(h1:SW P N k0 y st Q):SW P N k0 (.cond x y z) st Q:=
 SW.cond hx (fun _=>h1) (fun h=>by cases h)
theorem SW.ak {N k0:Nat}{st:St}{Q:Exit→St→Prop}{x:X}{y z:cG}(hx:ev (fun t=>st.env.lookup t) x=some (.d (.bool false)))(h1:SW P N k0 z st Q):SW P N k0 (.cond x y z) st Q:=
 SW.cond hx (fun h=>by cases h) (fun _=>h1)
theorem SW.c8 {N k0:Nat}{st:St}{Q:Exit→St→Prop}{α:Type}{x:cG}(I:α→St)(m:α→Nat)(i0:α)(Gi:Nat→Nat){Φ:Prop}(φ:Φ)
  (h0:Φ→bg k0 st (I i0) Gi:=by intro φ;simp [Go.Sl.bg,dL,u_,BU,SV.aV,SV.bh,SV.ok,SV.aI,Ob.aV,Ob.ok,lk,List.lookup,aS.aD,Dt.aD,SV.fI,SV.bt,SV.iO,SV.js,aS.aj,oP,jT,rZ,vf,jX,φ])
  (round:∀ i,SW P N k0 x (I i) fun e st'=>match e with | .normal=>∃ j ρ,m j<m i∧bg k0 st' (I j) ρ | e=>Q e st'):SW P N k0 (.loop x) st Q:=SW.loop I m i0 Gi (h0 φ) round
theorem bg.mk {k0:Nat}{st st1:St}{ρ:Nat→Nat}{Φ:Prop}(φ:Φ)(h0:Φ→bg k0 st st1 ρ:=by intro φ;simp [Go.Sl.bg,dL,u_,BU,SV.aV,SV.bh,SV.ok,SV.aI,Ob.aV,Ob.ok,lk,List.lookup,aS.aD,Dt.aD,SV.fI,SV.bt,SV.iO,SV.js,aS.aj,oP,jT,rZ,vf,jX,φ]):bg k0 st st1 ρ:=h0 φ
theorem Next.mk {k0:Nat}{st':St}{α:Type}{I:α→St}{m:α→Nat}{i:α}(j:α)(ρ:Nat→Nat){Φ:Prop}(φ:Φ)
  (hm:m j<m i:=by first | omega | (simp;done) | (simp;omega))
  (h0:Φ→bg k0 st' (I j) ρ:=by intro φ;simp [Go.Sl.bg,dL,u_,BU,SV.aV,SV.bh,SV.ok,SV.aI,Ob.aV,Ob.ok,lk,List.lookup,aS.aD,Dt.aD,SV.fI,SV.bt,SV.iO,SV.js,aS.aj,oP,jT,rZ,vf,jX,φ]):∃ j ρ,m j<m i∧bg k0 st' (I j) ρ:=⟨j,ρ,hm,h0 φ⟩
end
end Go.Sl
