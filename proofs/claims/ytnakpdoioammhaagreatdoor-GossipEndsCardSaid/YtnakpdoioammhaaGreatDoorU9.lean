/-
 A region, piece by piece: plain operations at once, up to the next call; a call by its contract.
-/
import Derived.Test.YtnakpdoioammhaaGreatDoorU7
import Derived.Maps.RangeRun
import Derived.Test.YtnakpdoioammhaaGreatDoorU8
set_option linter.unusedSectionVars false
set_option linter.unusedVariables false
set_option linter.unusedSimpArgs false
namespace Go.Sl
section
variable {P:Program}
def RW (P:Program)(ei:List SI)(st:St)(K:St→List (Bool×List Nat)→Prop):Prop:=
 ∃ c_ st' ob ts,runs P ei st c_=some (st',ob,ts)∧ob∧K st' ts
def fT:SO→Bool
 | .call .. =>true
 | _=>false
def sQ:SO→Bool
 | .nV .. =>true
 | _=>false
def seg (P:Program):List SI→St→Option (List SI×St×Prop×List (Bool×List Nat))
  | [],st=>some ([],st,True,[])
  | si :: r,st=>match si.g with
    | none=>match fT si.op with
      | true=>some (si::r,st,True,[])
      | false=>match bZ P st si.op [] with
        | some (e,_)=>match seg P r (eT st si e) with
          | some (rest,st',ob,ts)=>some (rest,st',e.ob∧ob,br si e::ts)
          | none=>none
        | none=>none
    | some (t,w)=>match st.env.lookup t with
      | some (.d (.bool b))=>match b == w with
        | true=>match fT si.op with
          | true=>some (si::r,st,True,[])
          | false=>match bZ P st si.op [] with
            | some (e,_)=>match seg P r (eT st si e) with
              | some (rest,st',ob,ts)=>some (rest,st',e.ob∧ob,br si e::ts)
              | none=>none
            | none=>none
        | false=>match seg P r (eT st si ⟨.cW [],[],[],0,True⟩) with
          | some (rest,st',ob,ts)=>some (rest,st',ob,br si ⟨.cW [],[],[],0,True⟩::ts)
          | none=>none
      | some (.cW [])=>match seg P r (eT st si ⟨.cW [],[],[],0,True⟩) with
          | some (rest,st',ob,ts)=>some (rest,st',ob,br si ⟨.cW [],[],[],0,True⟩::ts)
          | none=>none
      | _=>none
theorem yF {st:St}{so:SO}{e:jH}{c2:List CR}(hc:fT so=false)(h:bZ P st so []=some (e,c2)):c2=[]∧(sQ so=false→∀ c_,bZ P st so c_=some (e,c_))∧(sQ so=true→∀ c_,bZ P st so (.kW::c_)=some (e,c_)):=by
 cases so <;> simp only [fT,Bool.true_eq_false] at hc <;> simp only [bZ] at h <;> split at h <;> first | (cases h;done) | skip
 all_goals
  rename_i hs
  injection h with h
  injection h with h h'
  subst h;subst h'
  refine ⟨rfl,fun hb c_=> ?_,fun hb c_=> ?_⟩
  all_goals first
   | (simp [sQ] at hb;done)
   | simp only [bZ,hs]
theorem RW.nil {st:St}{K:St→List (Bool×List Nat)→Prop}(h:K st []):RW P [] st K:=⟨[],st,True,[],rfl,trivial,h⟩
theorem RW.cons {si:SI}{r:List SI}{st:St}{K:St→List (Bool×List Nat)→Prop}{e:jH}(h1:∀ c_,∃ c0,bJ P st si c0=some (e,c_))(bw:e.ob)(h:RW P r (eT st si e) fun st' ts=>K st' (br si e::ts)):RW P (si::r) st K:=by
 obtain ⟨c_,st',ob,ts,hr,ho,hk⟩:=h
 obtain ⟨c0,hc0⟩:=h1 c_
 refine ⟨c0,st',e.ob∧ob,br si e::ts,?_,⟨bw,ho⟩,hk⟩
 simp only [runs,hc0,hr]
theorem u0 {st:St}{so:SO}{e:jH}{c2:List CR}(hc:fT so=false)(h:bZ P st so []=some (e,c2))(c_:List CR):∃ c0,bZ P st so c0=some (e,c_):=by
 obtain ⟨_,h1,h2⟩:=yF hc h
 cases hb:sQ so with
 | false=>exact ⟨c_,h1 hb c_⟩
 | true=>exact ⟨.kW::c_,h2 hb c_⟩
theorem RW.call {d:Option Nat}{f:X}{args:List X}{g:Option (Nat×Bool)}{r:List SI}{st:St}{K:St→List (Bool×List Nat)→Prop}{fid:FuncId}{as first cap as':List SV}{F F':Hp}{v:SV}{nk:Nat}
  (hf:ev (fun t=>st.env.lookup t) f=some (.fn (.func fid) first cap)) (ha:fK (fun t=>st.env.lookup t) args=some as) (has:first++as++cap=as') (hc:bB P fid as' F st.k nk v F') (hs:HSub F st.hp)
  (hg:g=none∨∃ t w,g=some (t,w)∧st.env.lookup t=some (.d (.bool w)))
  (h:RW P r (eT st ⟨d,.call f args,g⟩ ⟨v,F,F',nk,True⟩) fun st' ts=>K st' (br ⟨d,.call f args,g⟩ ⟨v,F,F',nk,True⟩::ts)):RW P (⟨d,.call f args,g⟩::r) st K:=by
 refine RW.cons (e:=⟨v,F,F',nk,bB P fid (first++as++cap) F st.k nk v F'∧HSub F st.hp⟩) (fun c_=>⟨.call F v F' nk::c_,?_⟩) ⟨by rw [has];exact hc,hs⟩ h
 rcases hg with rfl | ⟨t,w,rfl,hl⟩
 ·simp only [bJ,bZ,hf,ha]
 ·simp [bJ,hl,bZ,hf,ha]
theorem SW.HZ {N k0:Nat}{st:St}{Q:Exit→St→Prop}{ei:List SI}{bs:List Nat}{draw:Bool}(hm:P.follows .mixedOrders=true)(h:RW P ei st fun st' ts=>(!draw || kn bs ts)=true∧Q .normal st'):SW P N k0 (.c7 ei bs draw) st Q:=by
 obtain ⟨c_,st',ob,ts,hr,ho,hn,hk⟩:=h
 exact SW.c7 c_ hm hr ho hn hk
theorem fm {st:St}{d:Option Nat}{op:SO}{g:Option (Nat×Bool)}{c_:List CR}{e:jH}{c2:List CR}(hg:g=none∨∃ t w,g=some (t,w)∧st.env.lookup t=some (.d (.bool w)))(h:bZ P st op c_=some (e,c2)):bJ P st ⟨d,op,g⟩ c_=some (e,c2):=by
 rcases hg with rfl | ⟨t,w,rfl,hl⟩
 ·simp only [bJ,h]
 ·simp [bJ,hl,h]
theorem RW.Fy {d:Nat}{op:SO}{g:Option (Nat×Bool)}{r:List SI}{K:St→List (Bool×List Nat)→Prop}{env:List (Nat×SV)}{hp F F':Hp}{k:Nat}{v:SV}{nk:Nat}{ob:Prop}
  (hr:bF op=true) (hc:fT op=false) (hb:sQ op=false) (hg:g=none∨∃ t w,g=some (t,w)∧env.lookup t=some (.d (.bool w))) (he:bZ P ⟨env,hp,k⟩ op []=some (⟨v,F,F',nk,ob⟩,[])) (bw:ob) (hk:nk=0)
  (h:RW P r ⟨(d,v)::env,hp,k⟩ fun st' ts=>K st' ((true,F.map (·.1)++F'.map (·.1))::ts)):RW P (⟨some d,op,g⟩::r) ⟨env,hp,k⟩ K:=by
 subst hk
 refine RW.cons (e:=⟨v,F,F',0,ob⟩) (fun c_=> ?_) bw ?_
 ·obtain ⟨c0,h0⟩:=u0 hc he c_
  exact ⟨c0,fm hg h0⟩
 ·simpa only [eT,br,hr,bn,if_true,Nat.add_zero] using h
def xL:Option Nat→SV→List (Nat×SV)→List (Nat×SV)
 | some d,v,env=>(d,v)::env
 | none,_,env=>env
theorem iX {d:Option Nat}{op:SO}{g:Option (Nat×Bool)}{env:List (Nat×SV)}{hp:Hp}{k:Nat}{e:jH}:eT ⟨env,hp,k⟩ ⟨d,op,g⟩ e=⟨xL d e.v env,bn (bF op) hp e.F e.F',k+e.nk⟩:=by
 cases d <;> rfl
theorem RW.AP {d:Option Nat}{op:SO}{g:Option (Nat×Bool)}{r:List SI}{K:St→List (Bool×List Nat)→Prop}{env:List (Nat×SV)}{hp hp' F F':Hp}{k k':Nat}{v:SV}{nk:Nat}{ob:Prop}
  (hc:fT op=false) (hg:g=none∨∃ t w,g=some (t,w)∧env.lookup t=some (.d (.bool w))) (he:bZ P ⟨env,hp,k⟩ op []=some (⟨v,F,F',nk,ob⟩,[])) (bw:ob) (hh:bn (bF op) hp F F'=hp') (hk:k+nk=k')
  (h:RW P r ⟨xL d v env,hp',k'⟩ fun st' ts=>K st' ((bF op,F.map (·.1)++F'.map (·.1))::ts)):RW P (⟨d,op,g⟩::r) ⟨env,hp,k⟩ K:=by
 refine RW.cons (e:=⟨v,F,F',nk,ob⟩) (fun c_=> ?_) bw ?_
 ·obtain ⟨c0,h0⟩:=u0 hc he c_
  exact ⟨c0,fm hg h0⟩
 ·rw [iX,hh,hk];exact h
theorem RW.AQ {d:Nat}{op:SO}{t:Nat}{w:Bool}{r:List SI}{K:St→List (Bool×List Nat)→Prop}{env:List (Nat×SV)}{hp:Hp}{k:Nat}{s:SV}(hg:env.lookup t=some s)(hs:kO w s=true)
  (h:RW P r ⟨(d,.cW [])::env,hp,k⟩ fun st' ts=>K st' ((bF op,[])::ts)):RW P (⟨some d,op,some (t,w)⟩::r) ⟨env,hp,k⟩ K:=by
 have hh:bn (bF op) hp [] []=hp:=by unfold bn;split <;> rfl
 refine RW.cons (e:=⟨.cW [],[],[],0,True⟩) (fun c_=>⟨c_,?_⟩) trivial ?_
 ·unfold kO at hs
  split at hs
  ·simp only [bJ,hg];rw [if_neg (by simpa using hs)]
  ·simp only [bJ,hg]
  ·cases hs
 ·rw [iX]
  show RW P r ⟨(d,.cW [])::env,bn (bF op) hp [] [],k+0⟩ _
  rw [hh];exact h
theorem RW.yG {op:SO}{t:Nat}{w:Bool}{r:List SI}{K:St→List (Bool×List Nat)→Prop}{env:List (Nat×SV)}{hp:Hp}{k:Nat}{s:SV}(hg:env.lookup t=some s)(hs:kO w s=true)
  (h:RW P r ⟨env,hp,k⟩ fun st' ts=>K st' ((bF op,[])::ts)):RW P (⟨none,op,some (t,w)⟩::r) ⟨env,hp,k⟩ K:=by
 have hh:bn (bF op) hp [] []=hp:=by unfold bn;split <;> rfl
 refine RW.cons (e:=⟨.cW [],[],[],0,True⟩) (fun c_=>⟨c_,?_⟩) trivial ?_
 ·unfold kO at hs
  split at hs
  ·simp only [bJ,hg];rw [if_neg (by simpa using hs)]
  ·simp only [bJ,hg]
  ·cases hs
 ·rw [iX]
  show RW P r ⟨env,bn (bF op) hp [] [],k+0⟩ _
  rw [hh];exact h
theorem RW.AR {d:Option Nat}{f:X}{args:List X}{g:Option (Nat×Bool)}{r:List SI}{K:St→List (Bool×List Nat)→Prop}{fid:FuncId}{as first cap as':List SV}{env:List (Nat×SV)}{hp F F':Hp}{k:Nat}{v:SV}{nk:Nat}
  (hf:ev (fun t=>env.lookup t) f=some (.fn (.func fid) first cap)) (ha:fK (fun t=>env.lookup t) args=some as) (has:first++as++cap=as') (hc:bB P fid as' F k nk v F') (hs:HSub F hp)
  (hg:g=none∨∃ t w,g=some (t,w)∧env.lookup t=some (.d (.bool w)))
  (h:RW P r ⟨xL d v env,bn false hp F F',k+nk⟩ fun st' ts=>K st' ((false,F.map (·.1)++F'.map (·.1))::ts)):RW P (⟨d,.call f args,g⟩::r) ⟨env,hp,k⟩ K:=by
 refine RW.call (st:=⟨env,hp,k⟩) hf ha has hc hs hg ?_
 rw [iX];exact h
end
section
variable {P:Program}
def kE (P:Program)(o:Oper)(E:Nat→Option SV)(H:Nat→Option Ob)(k nk:Nat)(F:Hp)(Q:SV→Hp→Prop):Prop:=
 (∀ n ob,lk F n=some ob→H n=some ob)∧
 ∀ (rd:Option Nat) (p:Nat→Prop) (μ:Nat→Nm) (M:Mem) (a:Act) (w:World) (K:Act→World→Prop) (QQ:Exit→Act→World→Prop),(∀ n,(k≤n∧n<k+nk)→ ¬ p n)→fL E o.op.operands p μ M a→bP p μ M (lk F) w→
  (∀ r F' u bh M' w',Q r F'→Rp (fun n=>p n∨(k≤n∧n<k+nk)) bh M' r u→bP (fun n=>p n∨(k≤n∧n<k+nk)) bh M' (lk F') w'→Ev (lk F) (fun n=>k≤n∧n<k+nk) μ M w (lk F') bh M' w'→K (a.put o.dst u) w')→
  o.wpIn (iI rd) 0 P a w K QQ
theorem Sound.q {o:Oper}{E:Nat→Option SV}{H:Nat→Option Ob}{k:Nat}{e:jH}(h:Sound P o E H k e):kE P o E H k e.nk e.F (fun r F'=>r=e.v∧F'=e.F'):=
 ⟨h.2,fun rd p μ M a w K QQ h1 h2 h3 h4=>h.1 rd p μ M a w K QQ h1 h2 h3 fun u bh M' w' a1 a2 a3=>h4 _ _ u bh M' w' ⟨rfl,rfl⟩ a1 a2 a3⟩
theorem ia.step {N:Nat}{rd:Option Nat}{dg:Nat→Nm}{M0:Mem}{w0:World}{c0:Nat→Option Ob}{k0:Nat}{st:St}{a:Act}{w:World}{o:Oper}{si:SI}{F:Hp}{nk:Nat}{Q:SV→Hp→Prop}(hd:si.dst=o.dst)(hN:∀ d,o.dst=some d→d<N)
  (h:kE P o (fun t=>st.env.lookup t) (lk st.hp) st.k nk F Q) (hro:∀ r F',Q r F'→bF si.op=true→F'=F) (ga:ia N dg M0 w0 c0 k0 st a w) {K:Act→World→Prop} {QQ:Exit→Act→World→Prop}
  (hK:∀ r F',Q r F'→∀ a' w',ia N dg M0 w0 c0 k0 (eT st si ⟨r,F,F',nk,True⟩) a' w'→K a' w'):o.wpIn (iI rd) 0 P a w K QQ:=by
 obtain ⟨mq,hdf,hsz,μ,M,gi,hS,hE⟩:=ga
 have hsub:∀ n ob,lk F n=some ob→lk st.hp n=some ob:=h.1
 refine h.2 rd (· <st.k) μ M a w K QQ (fun n hn=>by omega) ⟨fun t _ s hs=>gi t s hs,hS.mem.jG⟩ (hS.sub hsub) fun r F' u bh M' w' hQ hu pn hE'=>hK r F' hQ _ _ ?_
 have hp:(fun n=>n<st.k∨(st.k≤n∧n<st.k+nk))=(· <st.k+nk):=funext fun n=>propext ⟨fun h=>by rcases h with h | h <;> omega,fun h=>by show n<st.k∨_;omega⟩
 have hfr:=hS.v8 hsub (fun n hn=>by omega) hE' pn fun n h=> .inl h
 rw [hp] at hu hfr
 have hnew:∀ n,(k0≤n∧n<st.k)∨(st.k≤n∧n<st.k+nk)↔k0≤n∧n<st.k+nk:=fun n=>by omega
 have hlk:lk (bn (bF si.op) st.hp F F')=yp (lk st.hp) (lk F) (lk F'):=gO hsub (hro r F' hQ)
 refine ⟨by show k0≤st.k+nk;omega,by rw [jl];exact hdf.ev hS hfr.2,by rw [kV];exact hsz,bh,M',fun t s hs=> ?_,?_,?_⟩
 ·have hold:∀ s,st.env.lookup t=some s→Rp (· <st.k+nk) bh M' s (a.tmps.getD t undef):=fun s h'=>
   (gi t s h').more (fun n h=>by omega) (fun n h=>hE'.old n fun h'=>by omega) hE'.mem
  simp only [eT,hd] at hs
  cases hod:o.dst with
  | none=>rw [hod] at hs;exact hold s hs
  | some d=>
   rw [hod] at hs
   simp only at hs
   rw [ko] at hs
   by_cases hdt:d=t
   ·subst hdt
    simp at hs
    subst hs
    rw [qf (by rw [hsz];exact hN d hod)]
    exact hu
   ·rw [if_neg hdt] at hs
    rw [lP (fun e=>hdt e.symm)]
    exact hold s hs
 ·show bP _ _ _ (lk (bn (bF si.op) st.hp F F')) _
  rw [hlk];exact hfr.1
 ·show Ev _ _ _ _ _ (lk (bn (bF si.op) st.hp F F')) _ _ _
  rw [hlk]
  exact (hE.trans hfr.2).pQ fun n=>hnew n
theorem ia.skip {N:Nat}{dg:Nat→Nm}{M0:Mem}{w0:World}{c0:Nat→Option Ob}{k0:Nat}{st:St}{a:Act}{w:World}{si:SI}{d:Option Nat}(hd:si.dst=d)(hN:∀ x,d=some x→x<N)
  (ga:ia N dg M0 w0 c0 k0 st a w):ia N dg M0 w0 c0 k0 (eT st si ⟨.cW [],[],[],0,True⟩) (a.put d undef) w:=by
 obtain ⟨mq,hdf,hsz,μ,M,gi,hS,hE⟩:=ga
 have hh:bn (bF si.op) st.hp [] []=st.hp:=by unfold bn;split <;> rfl
 refine ⟨mq,by rw [jl];exact hdf,by rw [kV];exact hsz,μ,M,fun t s hs=> ?_,by simp only [eT,hh];exact hS,by simp only [eT,hh];exact hE⟩
 simp only [eT,hd] at hs
 cases d with
 | none=>exact gi t s hs
 | some d=>
  simp only at hs
  rw [ko] at hs
  by_cases hdt:d=t
  ·subst hdt
   simp at hs
   subst hs
   rw [sF]
   exact Rp.dN.2 ⟨#[],rfl,aQ.aX.2 rfl⟩
  ·rw [if_neg hdt] at hs
   rw [lP (fun e=>hdt e.symm)]
   exact gi t s hs
def aK (P:Program)(N k0:Nat)(ei:List SI)(st:St)(K:St→Prop):Prop:=
 ∀ (ops:Array Oper) (i:Nat),i+ei.length=ops.size→(∀ j si,ei[j]? =some si→∃ o,ops[i+j]? =some o∧oV P ops o=some si)→(∀ si∈ei,∀ d,si.dst=some d→d<N)→
  ∀ (rd:Option Nat) (dg:Nat→Nm) (M0:Mem) (w0:World) (c0:Nat→Option Ob) (a:Act) (w:World),ia N dg M0 w0 c0 k0 st a w→∀ Q':Exit→Act→World→Prop,(∀ st' a' w',K st'→ia N dg M0 w0 c0 k0 st' a' w'→Q' .normal a' w')→
   wpOpsIn (iI rd) 0 P ops Q' (List.range' i ei.length) a w
theorem aK.nil {N k0:Nat}{st:St}{K:St→Prop}(h:K st):aK P N k0 [] st K:=fun ops i _ _ _ rd dg M0 w0 c0 a w ga Q' hQ=>hQ st a w h ga
theorem aK.cons {N k0:Nat}{st:St}{K:St→Prop}{si:SI}{r:List SI}
  (h:∀ (ops:Array Oper) (o:Oper),oV P ops o=some si→(∀ d,si.dst=some d→d<N)→∀ (rd:Option Nat) (dg:Nat→Nm) (M0:Mem) (w0:World) (c0:Nat→Option Ob) (a:Act) (w:World),ia N dg M0 w0 c0 k0 st a w→
   ∀ (i:Nat),ops[i]? =some o→∀ (Q':Exit→Act→World→Prop) (KK:Act→World→Prop),(∀ st' a' w',aK P N k0 r st' K→ia N dg M0 w0 c0 k0 st' a' w'→KK a' w')→wpOpIn (iI rd) 0 P ops Q' i KK a w):aK P N k0 (si::r) st K:=by
 intro ops i hl hget hN rd dg M0 w0 c0 a w ga Q' hQ
 obtain ⟨o,ho,hc⟩:=hget 0 si rfl
 simp only [Nat.add_zero] at ho
 rw [List.length_cons,List.range'_succ,wpOpsIn_cons]
 refine h ops o hc (fun d hd=>hN si (by simp) d hd) rd dg M0 w0 c0 a w ga i ho Q' _ fun st' a' w' hn hSt'=> ?_
 exact hn ops (i+1) (by simp at hl;omega) (fun j sj hj=>by
  obtain ⟨o',ho',hc'⟩:=hget (j+1) sj (by simpa using hj)
  exact ⟨o',by rw [show i+1+j=i+(j+1) by omega];exact ho',hc'⟩) (fun s hs d hd=>hN s (by simp [hs]) d hd) rd dg M0 w0 c0 a' w' hSt' Q' hQ
theorem aK.many {N k0:Nat}{st:St}{K:St→Prop}{si:SI}{r:List SI}{F:Hp}{nk:Nat}{Q:SV→Hp→Prop}(hg:si.g=none)(hq:∀ o:Oper,cO P o.op=some si.op→kE P o (fun t=>st.env.lookup t) (lk st.hp) st.k nk F Q)
  (hro:bF si.op=false) (h:∀ v F',Q v F'→aK P N k0 r (eT st si ⟨v,F,F',nk,True⟩) K):aK P N k0 (si::r) st K:=by
 refine aK.cons fun ops o hc hN rd dg M0 w0 c0 a w ga i ho Q' KK hKK=> ?_
 obtain ⟨g1,g2,g3⟩:=fS hc
 have hgn:o.guard=none:=by
  rcases g3 with ⟨h,_⟩ | ⟨j,w,t,h,_,h'⟩
  ·exact h
  ·rw [hg] at h';cases h'
 unfold wpOpIn
 simp only [ho,Region.wanted,hgn,if_true]
 exact (ia.step g2 (fun d hd=>hN d (by rw [g2];exact hd)) (hq o g1) (fun v F' _ hr=>by rw [hro] at hr;cases hr) ga fun v F' hQ a' w' hSt'=>hKK _ a' w' (h v F' hQ) hSt')
theorem aK.EM {N k0:Nat}{K:St→Prop}{rest:List SI}:∀ {ei:List SI} {st st':St} {c_:List CR} {ob:Prop} {ts:List (Bool×List Nat)},Go.Sl.runs P ei st c_=some (st',ob,ts)→ob→aK P N k0 rest st' K→aK P N k0 (ei++rest) st K:=by
 intro ei
 induction ei with
 | nil=>
  intro st st' c_ ob ts h _ hk
  simp only [Go.Sl.runs] at h
  injection h with h
  injection h with h1 _
  subst h1
  exact hk
 | cons si r ih=>
  intro st st' c_ ob ts h bw hk
  simp only [Go.Sl.runs] at h
  split at h <;> first | (cases h;done) | skip
  rename_i e crs' hop
  split at h <;> first | (cases h;done) | skip
  rename_i st2 CF ts2 hr
  injection h with h
  injection h with h1 h
  injection h with h2 h3
  subst h1;subst h2
  refine aK.cons fun ops o hc hN rd dg M0 w0 c0 a w ga i ho Q' KK hKK=> ?_
  obtain ⟨b1,b2,b3⟩:=qm hc hop bw.1
  obtain ⟨g1,g2,g3⟩:=fS hc
  have hnext:=ih hr bw.2 hk
  have hu:eT st si e=eT st si ⟨e.v,e.F,e.F',e.nk,True⟩:=rfl
  unfold wpOpIn
  simp only [ho]
  obtain ⟨mq,hdf,hsz,μ,M,gi,hS,hE⟩:=ga
  have ga:ia N dg M0 w0 c0 k0 st a w:=⟨mq,hdf,hsz,μ,M,gi,hS,hE⟩
  rcases b1 with ⟨j,want,t,sv,hg,hd,hE',hb,e1,e2,e3,e4⟩ | ⟨hg,hs⟩
  ·have hv:=gi t _ hE'
   have hw:Region.wanted o (yielded ops a.tmps)=false:=by
    simp only [Region.wanted,hg]
    unfold kO at hb
    split at hb
    ·rw [iL hd (Rp.bI.1 hv)]
     simpa using hb
    ·obtain ⟨vs,e,hvs⟩:=Rp.dN.1 hv
     have hvs0:vs= #[]:=by have:=aQ.aX.1 hvs;simpa using this
     rw [qg hd (by rw [e,hvs0];rfl)]
     rfl
    ·cases hb
   simp only [hw,Bool.false_eq_true,if_false]
   obtain ⟨v,F,F',nk,eo⟩:=e
   simp only at e1 e2 e3 e4
   subst e1;subst e2;subst e3;subst e4
   exact ⟨fun _ _=>trivial,hKK _ _ _ hnext (ia.skip g2 (fun d hd=>hN d (by rw [g2];exact hd)) ga)⟩
  ·have hw:Region.wanted o (yielded ops a.tmps)=true:=by
    rcases hg with hg | ⟨j,want,t,hg,hd,hE'⟩
    ·simp [Region.wanted,hg]
    ·have hv:=Rp.bI.1 (gi t _ hE')
     simp only [Region.wanted,hg,iL hd hv]
     simp
   simp only [hw,if_true]
   exact (ia.step g2 (fun d hd=>hN d (by rw [g2];exact hd)) hs.q (fun v F' hQ hr=>by rw [hQ.2];exact b2 hr) ga fun v F' hQ a' w' hSt'=>hKK _ a' w' (by rw [hQ.1,hQ.2];exact hnext) hSt')
theorem aK.runs {N k0:Nat}{K:St→Prop}{ei:List SI}{st st':St}{c_:List CR}{ob:Prop}{ts:List (Bool×List Nat)}(h:Go.Sl.runs P ei st c_=some (st',ob,ts))(ho:ob)(hk:K st'):aK P N k0 ei st K:=by
 have:=aK.EM (N:=N) (k0:=k0) (rest:=[]) h ho (aK.nil hk)
 rwa [List.append_nil] at this
theorem aK.one {N k0:Nat}{K:St→Prop}{si:SI}{r:List SI}{st:St}{e:jH}{c2 c_:List CR}(h1:bJ P st si c_=some (e,c2))(bw:e.ob)(h:aK P N k0 r (eT st si e) K):aK P N k0 (si::r) st K:=
 aK.EM (ei:=[si]) (c_:=c_) (st':=eT st si e) (ob:=e.ob∧True) (ts:=[br si e]) (by simp only [Go.Sl.runs,h1]) ⟨bw,trivial⟩ h
theorem tP {o:Oper}{E:Nat→Option SV}{H:Nat→Option Ob}{k nk:Nat}{f:X}{args:List X}{fid:FuncId}{first cap as:List SV}{F:Hp}{Q:SV→Hp→Prop}(hc:cO P o.op=some (.call f args))
  (h1:ev E f=some (.fn (.func fid) first cap)) (h2:fK E args=some as) (zW:SC P fid (first++as++cap) F k nk Q) (hsub:∀ n ob,lk F n=some ob→H n=some ob):kE P o E H k nk F Q:=by
 obtain ⟨c,fo,hop,bU,hf,ha⟩:=ng hc
 exact ⟨hsub,fun rd p μ M a w K QQ hnew hk hS hK=>tF hop bU hf ha h1 h2 zW hnew hk hS hK⟩
theorem SW.H6 {N k0:Nat}{st:St}{ei:List SI}{K:St→Prop}{st1:St}{ρ:Nat→Nat}(hw:bk k0 st st1 ρ)(h:aK P N k0 ei st1 K):aK P N k0 ei st K:=
 fun ops i h1 h2 h3 rd dg M0 w0 c0 a w ga=>h ops i h1 h2 h3 rd dg M0 w0 c0 a w (ga.weak hw)
theorem SW.lp {N k0:Nat}{st:St}{Q:Exit→St→Prop}{ei:List SI}{bs:List Nat}(h:aK P N k0 ei st (Q .normal)):SW P N k0 (.c7 ei bs false) st Q:=by
 intro c hc rd hrf dg M0 w0 c0 a w ga
 cases c <;> simp only [cK] at hc <;> first
  | (cases hc;done)
  | (exfalso;split at hc <;> cases hc;done)
  | (exfalso;obtain ⟨_,_,h'⟩:=Option.map_eq_some_iff.1 hc;cases h';done)
  | skip
 rename_i id ops draw
 split at hc <;> first | (cases hc;done) | skip
 rename_i sis' bs' hreg
 injection hc with hc
 injection hc with h1 h2 h3
 subst h1;subst h3
 unfold CY at hreg
 split at hreg <;> first | (cases hreg;done) | skip
 rename_i sis2 hsis
 split at hreg <;> first | (cases hreg;done) | skip
 rename_i hchk
 injection hreg with hreg
 injection hreg with pJ rU
 subst pJ
 simp only [Bool.and_eq_true] at hchk
 obtain ⟨_,hin⟩:=hchk
 obtain ⟨hlen,hget⟩:=mI hsis
 refine wpIn_region ?_
 rw [List.range_eq_range']
 have hn:ops.size=sis2.length:=by simpa using hlen
 rw [hn]
 refine h ops 0 (by omega) (fun j si hj=> ?_) (fun si hs d hd=> ?_) rd dg M0 w0 c0 a w ga _ fun st' a' w' hk hSt'=>⟨st',hk,hSt'⟩
 ·have hj':j<ops.size:=by rw [hn];exact (List.getElem?_eq_some_iff.1 hj).1
  obtain ⟨si',h1,h2⟩:=hget j ops[j] (by simp [hj'])
  rw [hj] at h1;injection h1 with h1;subst h1
  exact ⟨ops[j],by rw [Nat.zero_add];exact Array.getElem?_eq_getElem hj',h2⟩
 ·have:=List.all_eq_true.1 hin si hs
  rw [hd] at this
  simpa using this
end
end Go.Sl
namespace Go.Sl
open Go.RowKit
def uv (n:Nat):SV:= .d (.int .u64 (n:Int))
section
variable {K:Type} [DecidableEq K] {kc:K→List SV}
theorem nC (L:MM K Nat)(a:K):bX (aN kc uv L) (.d (.int .u64 0)) (MM.idx L a)= .d (.int .u64 (((MM.get L a).getD 0:Nat):Int)):=lU (vs:=uv) 0 L a
theorem nD (L:MM K Nat)(c:Nat)(a:K)(n:Nat):ck (aN kc uv L) c (.agg (kc a)) (.d (.int .u64 (n:Int))) (MM.idx L a)= .map (aN kc uv (MM.put L c a n)) (MM.qv L c a):=oo (vs:=uv) L c a n
theorem nE (L:MM K Nat)(c:Nat)(a:K):oR (aN kc uv L) c (.agg (kc a)) (.d (.int .u64 0)) (MM.idx L a)= .map (aN kc uv (MM.zY L c a 0)) (MM.qv L c a):=tL (vs:=uv) L c a 0
theorem nF (L:MM K Nat)(c:Nat)(a:K)(z v:Nat):(aN kc uv (MM.zY L c a z)).modify (MM.pos L a) (fun e=>(e.1,e.2.1,.d (.int .u64 (v:Int))))=aN kc uv (MM.put L c a v):=lV (vs:=uv) L c a z v
end
structure Sp where
 d:Dt
 n:Nat
 deriving DecidableEq
def Sp.ds (x:Sp):List DV:=[.int .u8 x.d.r,.int .u32 x.d.n,.int .u64 x.n]
def Sp.cells (x:Sp):List SV:=x.ds.map .d
@[simp] theorem Sp.ku (x:Sp):x.ds.length=3:=rfl
@[simp] theorem Sp.jN (x:Sp):x.cells.length=3:=rfl
@[simp] theorem Sp.an (x:Sp) (q:Nat→Bool):SV.aF q x.cells=true:=SV.cm _
@[simp] theorem Sp.bN (x:Sp) (ρ:Nat→Nat):SV.aM ρ x.cells=x.cells:=SV.dW _
theorem Sp.cells_one (x:Sp):x.cells.all SV.aZ=true:=rfl
@[simp] theorem Sp.aq (x:Sp):x.cells.take 3=x.cells:=rfl
theorem Sp.gu (x:Sp):x.cells.take 2=x.d.cells:=rfl
theorem Sp.gN (x:Sp):x.cells[2]? =some (u64 x.n):=rfl
theorem Sp.aB (c x:Sp):bV c.cells 0 x.cells=x.cells:=rfl
def Sp.zero:Sp:=⟨⟨0,0⟩,0⟩
theorem Sp.ak:([.d (.int .u8 0),.d (.int .u32 0),.d (.int .u64 0)]:List SV)=Sp.zero.cells:=rfl
theorem Sp.ec (d:Dt)(n:Nat):bV (bV Sp.zero.cells 0 d.cells) 2 [.d (.int .u64 (n:Int))]=(Sp.mk d n).cells:=rfl
theorem Sp.fV (a b:Sp):eZ [true,true,true] a.cells b.cells=some (decide (a=b)):=by
 have h:eZ [true,true,true] a.cells b.cells=some (((a.d.r:Int) == b.d.r) && (((a.d.n:Int) == b.d.n) && (((a.n:Int) == b.n) && true))):=by simp [eZ,yw,Sp.cells,Sp.ds]
 rw [h]
 congr 1
 obtain ⟨⟨a0,a1⟩,a2⟩:=a
 obtain ⟨⟨b0,b1⟩,b2⟩:=b
 rw [Bool.eq_iff_iff]
 simp
 omega
@[simp] theorem HI (l:List Sp):(l.flatMap Sp.ds).length=l.length*3:=eB Sp.ds 3 (fun _=>rfl) l
theorem nG (x:Cr):bC x.cells=some x.ds:=rfl
theorem nH (x:Sp):bC x.cells=some x.ds:=rfl
end Go.Sl
namespace Go.Sl
variable {P:Program}
theorem HSub.cons {F h:Hp}{n:Nat}{ob:Ob}(h1:lk h n=some ob)(h2:HSub F h):HSub ((n,ob)::F) h:=fun m iJ hm=>by
 rw [af] at hm
 split at hm
 ·rename_i e;subst e;injection hm with hm;subst hm;exact h1
 ·exact h2 m iJ hm
theorem wrap_i64 (n:Int)(h: -9223372036854775808≤n∧n<9223372036854775808):IntKind.i64.wrap n=n:=Ay n h.1 h.2
theorem jS (n:Int)(h:0≤n∧n<18446744073709551616):IntKind.u64.wrap n=n:=by
 have:=wrap_u64 n.toNat (by omega)
 rwa [show ((n.toNat:Nat):Int)=n by omega] at this
theorem wrap_u32' (n:Int)(h:0≤n∧n<4294967296):IntKind.u32.wrap n=n:=by
 have:=wrap_u32 n.toNat (by omega)
 rwa [show ((n.toNat:Nat):Int)=n by omega] at this
theorem wrap_u8' (n:Int)(h:0≤n∧n<256):IntKind.u8.wrap n=n:=by
 have:=wrap_u8 n.toNat (by omega)
 rwa [show ((n.toNat:Nat):Int)=n by omega] at this
theorem U:(true == true)=true:=rfl
theorem u5:(false == false)=true:=rfl
theorem Dt.AS (c:Dt)(a b:Int)(h:0≤a∧0≤b):bV (bV c.cells 0 [.d (.int .u8 a)]) 1 [.d (.int .u32 b)]=(Dt.mk a.toNat b.toNat).cells:=by
 have:=Dt.ec c a.toNat b.toNat
 rwa [show ((a.toNat:Nat):Int)=a by omega,show ((b.toNat:Nat):Int)=b by omega] at this
theorem Dt.AT (c:Dt)(b:Int)(h:0≤b):bV c.cells 1 [.d (.int .u32 b)]=(Dt.mk c.r b.toNat).cells:=by
 rw [show b=((b.toNat:Nat):Int) by omega];rfl
theorem lu (n k:Nat):(n:Int)+(no_index (OfNat.ofNat k):Int)=((n+OfNat.ofNat k:Nat):Int):=rfl
theorem lz (n k:Nat):(n:Int)+(k:Int)=((n+k:Nat):Int):=rfl
def aa (L:List Nat)(st:St)(R:St→Prop):Prop:=R ⟨st.env.filter (fun x=>L.contains x.1),st.hp,st.k⟩
theorem aa.mk {L:List Nat}{env:List (Nat×SV)}{hp:Hp}{k:Nat}{R:St→Prop}{env':List (Nat×SV)}
  (he:env.filter (fun x=>L.contains x.1)=env':=by (simp only [dc,Nat.zero_add,Nat.reduceAdd,List.filter,List.contains_cons,List.contains_nil,Nat.reduceBEq,Bool.or_false,Bool.or_true,Bool.true_or,Bool.false_or,BEq.rfl,beq_self_eq_true] <;> with_reducible rfl)) (h:R ⟨env',hp,k⟩):aa L ⟨env,hp,k⟩ R:=by
 show R ⟨env.filter _,hp,k⟩;rw [he];exact h
theorem lB (L : List Nat):∀ (env:List (Nat×SV)) (t:Nat) (s:SV),(env.filter (fun x=>L.contains x.1)).lookup t=some s→env.lookup t=some s
  | [],t,s,h=>by simp at h
  | (u, x) :: env,t,s,h=>by
    simp only [List.filter] at h
    by_cases hu:L.contains u=true
    · rw [hu] at h
      simp only [List.lookup] at h ⊢
      split at h
      · exact h
      · exact lB L env t s h
    · rw [show L.contains u=false by simpa using hu] at h
      have h2:=lB L env t s h
      simp only [List.lookup]
      by_cases e:t=u
      · subst e
        exfalso
        have:∀ (env:List (Nat×SV)),(env.filter (fun x=>L.contains x.1)).lookup t=none:=by
          intro env
          induction env with
          | nil=>rfl
          | cons y env ih=>
            simp only [List.filter]
            by_cases hy:L.contains y.1=true
            · rw [hy]
              simp only [List.lookup]
              have:(t == y.1)=false:=by
                simp only [beq_eq_false_iff_ne];intro e;rw [← e] at hy;exact hu hy
              rw [this];exact ih
            · rw [show L.contains y.1=false by simpa using hy];exact ih
        rw [this] at h;cases h
      · rw [show (t == u)=false by simpa using e];exact h2
theorem SW.au {N k0:Nat}{st:St}{Q:Exit→St→Prop}{ei:List SI}{bs:List Nat}{draw:Bool}(L:List Nat)(hm:P.follows .mixedOrders=true)(h:RW P ei st fun st' ts=>(!draw || kn bs ts)=true∧aa L st' (Q .normal)):SW P N k0 (.c7 ei bs draw) st Q:=by
 have h':RW P ei st fun st' ts=>(!draw || kn bs ts)=true∧(fun e st'=>∃ st2,Q e st2∧st2=⟨st'.env.filter (fun x=>L.contains x.1),st'.hp,st'.k⟩) Exit.normal st':=by
  obtain ⟨c_,st',ob,ts,hr,ho,hn,hk⟩:=h
  exact ⟨c_,st',ob,ts,hr,ho,hn,_,hk,rfl⟩
 have:=SW.HZ (N:=N) (k0:=k0) (bs:=bs) (draw:=draw) (Q:=fun e st'=>∃ st2,Q e st2∧st2=⟨st'.env.filter (fun x=>L.contains x.1),st'.hp,st'.k⟩) hm h'
 intro c hc rd hrf dg M0 w0 c0 a w ga
 refine wpIn_mono (this c hc rd hrf dg M0 w0 c0 a w ga) ?_
 rintro e a' w' ⟨st',⟨st2,hq,rfl⟩,hst'⟩
 obtain ⟨h1,h2,h3,μ,M,h4,h5,h6⟩:=hst'
 exact ⟨_,hq,h1,h2,h3,μ,M,fun t s hl=>h4 t s (lB L _ t s hl),h5,h6⟩
theorem SW.cut {N k0:Nat}{st:St}{Q:Exit→St→Prop}{x y:cr}(stM:St)(ρ:Nat→Nat)(h1:SW P N k0 x st fun e st'=>match e with | .normal=>bk k0 st' stM ρ | _=>False)(h2:SW P N k0 y stM Q):SW P N k0 (.seq x y) st Q:=by
 refine SW.seq (h1.mono fun e st' h=> ?_)
 cases e <;> first | exact h.elim | exact SW.weak ρ h h2
section
variable {ei rest r:List SI} {st st':St} {ob:Prop} {ts:List (Bool×List Nat)} {K:St→List (Bool×List Nat)→Prop}
theorem RW.ro {d:Nat}{op:SO}{g:Option (Nat×Bool)}{env:List (Nat×SV)}{hp F F':Hp}{k:Nat}{v:SV}{nk:Nat}{ob:Prop}{Φ:Prop}(φ:Φ)
  (hr:bF op=true:=by rfl) (hc:fT op=false:=by rfl) (hb:sQ op=false:=by rfl)
  (hg:g=none∨∃ t w,g=some (t,w)∧env.lookup t=some (.d (.bool w)):=by first | exact .inl rfl | exact .inr ⟨_,_,rfl,rfl⟩)
  (he:Φ→bZ P ⟨env,hp,k⟩ op []=some (⟨v,F,F',nk,ob⟩,[]):=by
   intro φ
   simp (disch:=omega) only [Go.Sl.seg,dc,fT,bZ,bW,ev,fK,gM,eT,List.lookup,Nat.reduceBEq,Nat.reduceAdd,Nat.reduceMul,Nat.zero_add,SV.cells,if_true,if_false,reduceIte,Bool.false_eq_true,bF,bn,bz,bA,cw,cB,bL,lk,List.filter,Nat.reduceBNe,bne_self_eq_false,eq_self,iw,fJ,a_,dP,dQ,jh,ag.cells_one,BEq.rfl,beq_self_eq_true,Bool.true_or,Nat.reduceEqDiff,List.map_cons,List.map_nil,List.nil_append,List.cons_append,List.append_nil,Int.toNat_natCast,Nat.mul_one,Nat.add_zero,bM,bK,bD,iN,iO,iP,iQ,iR,iS,bE,Option.isSome_some,Option.isSome_none,Option.isNone_some,Option.isNone_none,Nat.zero_ne_one,Nat.one_ne_zero,Bool.and_false,Bool.and_true,List.drop_zero,ag.ak,ag.aq,ag.aB,Dt.cells_one,Dt.aq,Dt.eu,Dt.ew,Dt.aB,Dt.ak,Dt.AS,Dt.AT,c9,bC,dR,dL,List.all_cons,List.all_nil,SV.aZ,Int.cast_ofNat_Int,Int.reduceBNe,Int.reduceBEq,Int.reduceLT,Int.reduceLE,Int.reduceGT,Int.reduceGE,bt,cN,cQ,Bool.not_true,Bool.not_false,Bool.or_false,Bool.or_true,Bool.false_or,Bool.or_self,ag.bO,ag.ey,ag.cL,ag.cM,ag.av,ag.ax,Dt.bO,Dt.ez,Dt.av,Dt.ax,List.all_append,ag.dX,Dt.fV,Bool.cond_true,Bool.cond_false,wrap_i64,jS,wrap_u32',wrap_u8',U,u5,lu,lz,Int.reduceToNat,List.length_nil,List.getElem?_cons_zero,List.getElem?_cons_succ,List.take_succ_cons,List.take_zero,List.drop_succ_cons,decide_true,decide_false,Bool.true_and,Bool.and_self,Bool.false_and,jq,nj,gq,gY,jP,MM.dB,k8,qw,nv,ny,nt,nw,nu,nx,nq,nr,ah.cells_one,ah.aq,ah.gu,ah.qA,ah.uQ,ah.AI,ah.k9,ah.uR,ah.uS,ah.G9,ah.iU,ah.iV,ah.qB,ah.G_,ah.AJ,ah.uT,ah.AK,ah.qC,ah.qD,ah.qE,ah.sM,ah.aB,ah.ak,Cr.cells_one,Cr.aq,Cr.gu,Cr.k9,Cr.AL,Cr.uV,Cr.iU,Cr.iV,Cr.qB,Cr.qF,Cr.aB,Cr.ak,Cr.fV,nC,nD,nE,nF,Sp.cells_one,Sp.aq,Sp.gu,Sp.gN,Sp.aB,Sp.ak,Sp.ec,Sp.fV,nH,nG,φ]
   with_reducible rfl)
  (bw:ob:=by first | trivial | (repeat' (first | exact trivial | omega | apply And.intro | (simp [-List.length_flatMap,-Int.natCast_add];done) | (simp [-List.length_flatMap,-Int.natCast_add] <;> omega))))
  (hk:nk=0:=by rfl)
  (h:RW P r ⟨(d,v)::env,hp,k⟩ fun st' ts=>K st' ((true,F.map (·.1)++F'.map (·.1))::ts)):RW P (⟨some d,op,g⟩::r) ⟨env,hp,k⟩ K:=RW.Fy hr hc hb hg (he φ) bw hk h
theorem RW.op {d:Nat}{op:SO}{g:Option (Nat×Bool)}{env:List (Nat×SV)}{hp hp' F F':Hp}{k k':Nat}{v:SV}{nk:Nat}{ob:Prop}{Φ:Prop}(φ:Φ)
  (hc:fT op=false:=by rfl)
  (hg:g=none∨∃ t w,g=some (t,w)∧env.lookup t=some (.d (.bool w)):=by first | exact .inl rfl | exact .inr ⟨_,_,rfl,rfl⟩)
  (he:Φ→bZ P ⟨env,hp,k⟩ op []=some (⟨v,F,F',nk,ob⟩,[]):=by
   intro φ
   simp (disch:=omega) only [Go.Sl.seg,dc,fT,bZ,bW,ev,fK,gM,eT,List.lookup,Nat.reduceBEq,Nat.reduceAdd,Nat.reduceMul,Nat.zero_add,SV.cells,if_true,if_false,reduceIte,Bool.false_eq_true,bF,bn,bz,bA,cw,cB,bL,lk,List.filter,Nat.reduceBNe,bne_self_eq_false,eq_self,iw,fJ,a_,dP,dQ,jh,ag.cells_one,BEq.rfl,beq_self_eq_true,Bool.true_or,Nat.reduceEqDiff,List.map_cons,List.map_nil,List.nil_append,List.cons_append,List.append_nil,Int.toNat_natCast,Nat.mul_one,Nat.add_zero,bM,bK,bD,iN,iO,iP,iQ,iR,iS,bE,Option.isSome_some,Option.isSome_none,Option.isNone_some,Option.isNone_none,Nat.zero_ne_one,Nat.one_ne_zero,Bool.and_false,Bool.and_true,List.drop_zero,ag.ak,ag.aq,ag.aB,Dt.cells_one,Dt.aq,Dt.eu,Dt.ew,Dt.aB,Dt.ak,Dt.AS,Dt.AT,c9,bC,dR,dL,List.all_cons,List.all_nil,SV.aZ,Int.cast_ofNat_Int,Int.reduceBNe,Int.reduceBEq,Int.reduceLT,Int.reduceLE,Int.reduceGT,Int.reduceGE,bt,cN,cQ,Bool.not_true,Bool.not_false,Bool.or_false,Bool.or_true,Bool.false_or,Bool.or_self,ag.bO,ag.ey,ag.cL,ag.cM,ag.av,ag.ax,Dt.bO,Dt.ez,Dt.av,Dt.ax,List.all_append,ag.dX,Dt.fV,Bool.cond_true,Bool.cond_false,wrap_i64,jS,wrap_u32',wrap_u8',U,u5,lu,lz,Int.reduceToNat,List.length_nil,List.getElem?_cons_zero,List.getElem?_cons_succ,List.take_succ_cons,List.take_zero,List.drop_succ_cons,decide_true,decide_false,Bool.true_and,Bool.and_self,Bool.false_and,jq,nj,gq,gY,jP,MM.dB,k8,qw,nv,ny,nt,nw,nu,nx,nq,nr,ah.cells_one,ah.aq,ah.gu,ah.qA,ah.uQ,ah.AI,ah.k9,ah.uR,ah.uS,ah.G9,ah.iU,ah.iV,ah.qB,ah.G_,ah.AJ,ah.uT,ah.AK,ah.qC,ah.qD,ah.qE,ah.sM,ah.aB,ah.ak,Cr.cells_one,Cr.aq,Cr.gu,Cr.k9,Cr.AL,Cr.uV,Cr.iU,Cr.iV,Cr.qB,Cr.qF,Cr.aB,Cr.ak,Cr.fV,nC,nD,nE,nF,Sp.cells_one,Sp.aq,Sp.gu,Sp.gN,Sp.aB,Sp.ak,Sp.ec,Sp.fV,nH,nG,φ]
   with_reducible rfl)
  (bw:ob:=by first | trivial | (repeat' (first | exact trivial | omega | apply And.intro | (simp [-List.length_flatMap,-Int.natCast_add];done) | (simp [-List.length_flatMap,-Int.natCast_add] <;> omega))))
  (hh:Φ→bn (bF op) hp F F'=hp':=by (intro φ;simp only [φ,bF,bn,bz,bA,cw,cB,bL,lk,List.lookup,Nat.reduceBEq,BEq.rfl,beq_self_eq_true,if_true,if_false,reduceIte,Nat.reduceEqDiff,Bool.false_eq_true,Option.isSome_some,Option.isSome_none] <;> with_reducible rfl))
  (hk:k+nk=k':=by first | (simp only [Nat.add_zero,Nat.reduceAdd] <;> rfl) | rfl)
  (h:RW P r ⟨(d,v)::env,hp',k'⟩ fun st' ts=>K st' ((bF op,F.map (·.1)++F'.map (·.1))::ts)):RW P (⟨some d,op,g⟩::r) ⟨env,hp,k⟩ K:=RW.AP hc hg (he φ) bw (hh φ) hk h
theorem RW.aL {op:SO}{g:Option (Nat×Bool)}{env:List (Nat×SV)}{hp hp' F F':Hp}{k k':Nat}{v:SV}{nk:Nat}{ob:Prop}{Φ:Prop}(φ:Φ)
  (hc:fT op=false:=by rfl)
  (hg:g=none∨∃ t w,g=some (t,w)∧env.lookup t=some (.d (.bool w)):=by first | exact .inl rfl | exact .inr ⟨_,_,rfl,rfl⟩)
  (he:Φ→bZ P ⟨env,hp,k⟩ op []=some (⟨v,F,F',nk,ob⟩,[]):=by
   intro φ
   simp (disch:=omega) only [Go.Sl.seg,dc,fT,bZ,bW,ev,fK,gM,eT,List.lookup,Nat.reduceBEq,Nat.reduceAdd,Nat.reduceMul,Nat.zero_add,SV.cells,if_true,if_false,reduceIte,Bool.false_eq_true,bF,bn,bz,bA,cw,cB,bL,lk,List.filter,Nat.reduceBNe,bne_self_eq_false,eq_self,iw,fJ,a_,dP,dQ,jh,ag.cells_one,BEq.rfl,beq_self_eq_true,Bool.true_or,Nat.reduceEqDiff,List.map_cons,List.map_nil,List.nil_append,List.cons_append,List.append_nil,Int.toNat_natCast,Nat.mul_one,Nat.add_zero,bM,bK,bD,iN,iO,iP,iQ,iR,iS,bE,Option.isSome_some,Option.isSome_none,Option.isNone_some,Option.isNone_none,Nat.zero_ne_one,Nat.one_ne_zero,Bool.and_false,Bool.and_true,List.drop_zero,ag.ak,ag.aq,ag.aB,Dt.cells_one,Dt.aq,Dt.eu,Dt.ew,Dt.aB,Dt.ak,Dt.AS,Dt.AT,c9,bC,dR,dL,List.all_cons,List.all_nil,SV.aZ,Int.cast_ofNat_Int,Int.reduceBNe,Int.reduceBEq,Int.reduceLT,Int.reduceLE,Int.reduceGT,Int.reduceGE,bt,cN,cQ,Bool.not_true,Bool.not_false,Bool.or_false,Bool.or_true,Bool.false_or,Bool.or_self,ag.bO,ag.ey,ag.cL,ag.cM,ag.av,ag.ax,Dt.bO,Dt.ez,Dt.av,Dt.ax,List.all_append,ag.dX,Dt.fV,Bool.cond_true,Bool.cond_false,wrap_i64,jS,wrap_u32',wrap_u8',U,u5,lu,lz,Int.reduceToNat,List.length_nil,List.getElem?_cons_zero,List.getElem?_cons_succ,List.take_succ_cons,List.take_zero,List.drop_succ_cons,decide_true,decide_false,Bool.true_and,Bool.and_self,Bool.false_and,jq,nj,gq,gY,jP,MM.dB,k8,qw,nv,ny,nt,nw,nu,nx,nq,nr,ah.cells_one,ah.aq,ah.gu,ah.qA,ah.uQ,ah.AI,ah.k9,ah.uR,ah.uS,ah.G9,ah.iU,ah.iV,ah.qB,ah.G_,ah.AJ,ah.uT,ah.AK,ah.qC,ah.qD,ah.qE,ah.sM,ah.aB,ah.ak,Cr.cells_one,Cr.aq,Cr.gu,Cr.k9,Cr.AL,Cr.uV,Cr.iU,Cr.iV,Cr.qB,Cr.qF,Cr.aB,Cr.ak,Cr.fV,nC,nD,nE,nF,Sp.cells_one,Sp.aq,Sp.gu,Sp.gN,Sp.aB,Sp.ak,Sp.ec,Sp.fV,nH,nG,φ]
   with_reducible rfl)
  (bw:ob:=by first | trivial | (repeat' (first | exact trivial | omega | apply And.intro | (simp [-List.length_flatMap,-Int.natCast_add];done) | (simp [-List.length_flatMap,-Int.natCast_add] <;> omega))))
  (hh:Φ→bn (bF op) hp F F'=hp':=by (intro φ;simp only [φ,bF,bn,bz,bA,cw,cB,bL,lk,List.lookup,Nat.reduceBEq,BEq.rfl,beq_self_eq_true,if_true,if_false,reduceIte,Nat.reduceEqDiff,Bool.false_eq_true,Option.isSome_some,Option.isSome_none] <;> with_reducible rfl))
  (hk:k+nk=k':=by first | (simp only [Nat.add_zero,Nat.reduceAdd] <;> rfl) | rfl)
  (h:RW P r ⟨env,hp',k'⟩ fun st' ts=>K st' ((bF op,F.map (·.1)++F'.map (·.1))::ts)):RW P (⟨none,op,g⟩::r) ⟨env,hp,k⟩ K:=RW.AP hc hg (he φ) bw (hh φ) hk h
theorem RW.skip {d:Nat}{op:SO}{t:Nat}{w:Bool}{env:List (Nat×SV)}{hp:Hp}{k:Nat}{s:SV}
  (hg:env.lookup t=some s:=by rfl) (hs:kO w s=true:=by rfl)
  (h:RW P r ⟨(d,.cW [])::env,hp,k⟩ fun st' ts=>K st' ((bF op,[])::ts)):RW P (⟨some d,op,some (t,w)⟩::r) ⟨env,hp,k⟩ K:=RW.AQ hg hs h
theorem RW.aj {op:SO}{t:Nat}{w:Bool}{env:List (Nat×SV)}{hp:Hp}{k:Nat}{s:SV}
  (hg:env.lookup t=some s:=by rfl) (hs:kO w s=true:=by rfl)
  (h:RW P r ⟨env,hp,k⟩ fun st' ts=>K st' ((bF op,[])::ts)):RW P (⟨none,op,some (t,w)⟩::r) ⟨env,hp,k⟩ K:=RW.yG hg hs h
def ai (P:Program)(fid:FuncId)(as':List SV)(d:Option Nat)(r:List SI)(env:List (Nat×SV))(hp:Hp)(k:Nat)(K:St→List (Bool×List Nat)→Prop):Prop:=
 ∃ F F' v nk,bB P fid as' F k nk v F'∧HSub F hp∧RW P r ⟨xL d v env,bn false hp F F',k+nk⟩ fun st' ts=>K st' ((false,F.map (·.1)++F'.map (·.1))::ts)
theorem RW.aG {d:Option Nat}{f:X}{args:List X}{g:Option (Nat×Bool)}{fid:FuncId}{as first cap as':List SV}{env:List (Nat×SV)}{hp:Hp}{k:Nat}
  (hf:ev (fun t=>env.lookup t) f=some (.fn (.func fid) first cap):=by (simp only [ev,List.lookup,Nat.reduceBEq] <;> rfl))
  (ha:fK (fun t=>env.lookup t) args=some as:=by (simp only [ev,fK,List.lookup,Nat.reduceBEq] <;> rfl))
  (has:first++as++cap=as':=by first | (simp only [List.nil_append,List.cons_append,List.append_nil] <;> rfl) | rfl)
  (hg:g=none∨∃ t w,g=some (t,w)∧env.lookup t=some (.d (.bool w)):=by first | exact .inl rfl | exact .inr ⟨_,_,rfl,rfl⟩)
  (h:ai P fid as' d r env hp k K):RW P (⟨d,.call f args,g⟩::r) ⟨env,hp,k⟩ K:=by
 obtain ⟨F,F',v,nk,hc,hs,h⟩:=h
 exact RW.AR hf ha has hc hs hg h
theorem ai.mk {fid:FuncId}{as':List SV}{F F' hp':Hp}{v v':SV}{nk k':Nat}{d:Nat}{env:List (Nat×SV)}{hp:Hp}{k:Nat}{Φ:Prop}(φ:Φ)
  (hs:HSub F hp:=by first | exact HSub.nil _ | (repeat (first | exact HSub.nil _ | refine HSub.cons (by rfl) ?_)))
  (hc:bB P fid as' F k nk v F')
  (hv:Φ→v=v':=by intro φ;first | ((simp only [φ]) <;> with_reducible rfl) | with_reducible rfl)
  (hh:Φ→bn false hp F F'=hp':=by (intro φ;simp only [φ,bF,bn,bz,bA,cw,cB,bL,lk,List.lookup,Nat.reduceBEq,BEq.rfl,beq_self_eq_true,if_true,if_false,reduceIte,Nat.reduceEqDiff,Bool.false_eq_true,Option.isSome_some,Option.isSome_none] <;> with_reducible rfl))
  (hk:k+nk=k':=by first | (simp only [Nat.add_zero,Nat.reduceAdd] <;> rfl) | rfl)
  (h:RW P r ⟨(d,v')::env,hp',k'⟩ fun st' ts=>K st' ((false,F.map (·.1)++F'.map (·.1))::ts)):ai P fid as' (some d) r env hp k K:=⟨F,F',v,nk,hc,hs,by rw [hv φ,hh φ,hk];exact h⟩
end
section
variable {N k0:Nat} {r:List SI} {K:St→Prop}
theorem aK.op {d:Nat}{op:SO}{g:Option (Nat×Bool)}{env:List (Nat×SV)}{hp hp' F F':Hp}{k k':Nat}{v:SV}{nk:Nat}{ob:Prop}{Φ:Prop}(φ:Φ)
  (hg:g=none∨∃ t w,g=some (t,w)∧env.lookup t=some (.d (.bool w)):=by first | exact .inl rfl | exact .inr ⟨_,_,rfl,rfl⟩)
  (he:Φ→bZ P ⟨env,hp,k⟩ op []=some (⟨v,F,F',nk,ob⟩,[]):=by
   intro φ
   simp (disch:=omega) only [Go.Sl.seg,dc,fT,bZ,bW,ev,fK,gM,eT,List.lookup,Nat.reduceBEq,Nat.reduceAdd,Nat.reduceMul,Nat.zero_add,SV.cells,if_true,if_false,reduceIte,Bool.false_eq_true,bF,bn,bz,bA,cw,cB,bL,lk,List.filter,Nat.reduceBNe,bne_self_eq_false,eq_self,iw,fJ,a_,dP,dQ,jh,ag.cells_one,BEq.rfl,beq_self_eq_true,Bool.true_or,Nat.reduceEqDiff,List.map_cons,List.map_nil,List.nil_append,List.cons_append,List.append_nil,Int.toNat_natCast,Nat.mul_one,Nat.add_zero,bM,bK,bD,iN,iO,iP,iQ,iR,iS,bE,Option.isSome_some,Option.isSome_none,Option.isNone_some,Option.isNone_none,Nat.zero_ne_one,Nat.one_ne_zero,Bool.and_false,Bool.and_true,List.drop_zero,ag.ak,ag.aq,ag.aB,Dt.cells_one,Dt.aq,Dt.eu,Dt.ew,Dt.aB,Dt.ak,Dt.AS,Dt.AT,c9,bC,dR,dL,List.all_cons,List.all_nil,SV.aZ,Int.cast_ofNat_Int,Int.reduceBNe,Int.reduceBEq,Int.reduceLT,Int.reduceLE,Int.reduceGT,Int.reduceGE,bt,cN,cQ,Bool.not_true,Bool.not_false,Bool.or_false,Bool.or_true,Bool.false_or,Bool.or_self,ag.bO,ag.ey,ag.cL,ag.cM,ag.av,ag.ax,Dt.bO,Dt.ez,Dt.av,Dt.ax,List.all_append,ag.dX,Dt.fV,Bool.cond_true,Bool.cond_false,wrap_i64,jS,wrap_u32',wrap_u8',U,u5,lu,lz,Int.reduceToNat,List.length_nil,List.getElem?_cons_zero,List.getElem?_cons_succ,List.take_succ_cons,List.take_zero,List.drop_succ_cons,decide_true,decide_false,Bool.true_and,Bool.and_self,Bool.false_and,jq,nj,gq,gY,jP,MM.dB,k8,qw,nv,ny,nt,nw,nu,nx,nq,nr,ah.cells_one,ah.aq,ah.gu,ah.qA,ah.uQ,ah.AI,ah.k9,ah.uR,ah.uS,ah.G9,ah.iU,ah.iV,ah.qB,ah.G_,ah.AJ,ah.uT,ah.AK,ah.qC,ah.qD,ah.qE,ah.sM,ah.aB,ah.ak,Cr.cells_one,Cr.aq,Cr.gu,Cr.k9,Cr.AL,Cr.uV,Cr.iU,Cr.iV,Cr.qB,Cr.qF,Cr.aB,Cr.ak,Cr.fV,nC,nD,nE,nF,Sp.cells_one,Sp.aq,Sp.gu,Sp.gN,Sp.aB,Sp.ak,Sp.ec,Sp.fV,nH,nG,φ]
   with_reducible rfl)
  (bw:ob:=by first | trivial | (repeat' (first | exact trivial | omega | apply And.intro | (simp [-List.length_flatMap,-Int.natCast_add];done) | (simp [-List.length_flatMap,-Int.natCast_add] <;> omega))))
  (hh:Φ→bn (bF op) hp F F'=hp':=by (intro φ;simp only [φ,bF,bn,bz,bA,cw,cB,bL,lk,List.lookup,Nat.reduceBEq,BEq.rfl,beq_self_eq_true,if_true,if_false,reduceIte,Nat.reduceEqDiff,Bool.false_eq_true,Option.isSome_some,Option.isSome_none] <;> with_reducible rfl))
  (hk:k+nk=k':=by first | (simp only [Nat.add_zero,Nat.reduceAdd] <;> rfl) | rfl)
  (h:aK P N k0 r ⟨(d,v)::env,hp',k'⟩ K):aK P N k0 (⟨some d,op,g⟩::r) ⟨env,hp,k⟩ K:=by
 refine aK.one (fm hg (he φ)) bw ?_
 rw [iX,hh φ,hk];exact h
theorem aK.aL {op:SO}{g:Option (Nat×Bool)}{env:List (Nat×SV)}{hp hp' F F':Hp}{k k':Nat}{v:SV}{nk:Nat}{ob:Prop}{Φ:Prop}(φ:Φ)
  (hg:g=none∨∃ t w,g=some (t,w)∧env.lookup t=some (.d (.bool w)):=by first | exact .inl rfl | exact .inr ⟨_,_,rfl,rfl⟩)
  (he:Φ→bZ P ⟨env,hp,k⟩ op []=some (⟨v,F,F',nk,ob⟩,[]):=by
   intro φ
   simp (disch:=omega) only [Go.Sl.seg,dc,fT,bZ,bW,ev,fK,gM,eT,List.lookup,Nat.reduceBEq,Nat.reduceAdd,Nat.reduceMul,Nat.zero_add,SV.cells,if_true,if_false,reduceIte,Bool.false_eq_true,bF,bn,bz,bA,cw,cB,bL,lk,List.filter,Nat.reduceBNe,bne_self_eq_false,eq_self,iw,fJ,a_,dP,dQ,jh,ag.cells_one,BEq.rfl,beq_self_eq_true,Bool.true_or,Nat.reduceEqDiff,List.map_cons,List.map_nil,List.nil_append,List.cons_append,List.append_nil,Int.toNat_natCast,Nat.mul_one,Nat.add_zero,bM,bK,bD,iN,iO,iP,iQ,iR,iS,bE,Option.isSome_some,Option.isSome_none,Option.isNone_some,Option.isNone_none,Nat.zero_ne_one,Nat.one_ne_zero,Bool.and_false,Bool.and_true,List.drop_zero,ag.ak,ag.aq,ag.aB,Dt.cells_one,Dt.aq,Dt.eu,Dt.ew,Dt.aB,Dt.ak,Dt.AS,Dt.AT,c9,bC,dR,dL,List.all_cons,List.all_nil,SV.aZ,Int.cast_ofNat_Int,Int.reduceBNe,Int.reduceBEq,Int.reduceLT,Int.reduceLE,Int.reduceGT,Int.reduceGE,bt,cN,cQ,Bool.not_true,Bool.not_false,Bool.or_false,Bool.or_true,Bool.false_or,Bool.or_self,ag.bO,ag.ey,ag.cL,ag.cM,ag.av,ag.ax,Dt.bO,Dt.ez,Dt.av,Dt.ax,List.all_append,ag.dX,Dt.fV,Bool.cond_true,Bool.cond_false,wrap_i64,jS,wrap_u32',wrap_u8',U,u5,lu,lz,Int.reduceToNat,List.length_nil,List.getElem?_cons_zero,List.getElem?_cons_succ,List.take_succ_cons,List.take_zero,List.drop_succ_cons,decide_true,decide_false,Bool.true_and,Bool.and_self,Bool.false_and,jq,nj,gq,gY,jP,MM.dB,k8,qw,nv,ny,nt,nw,nu,nx,nq,nr,ah.cells_one,ah.aq,ah.gu,ah.qA,ah.uQ,ah.AI,ah.k9,ah.uR,ah.uS,ah.G9,ah.iU,ah.iV,ah.qB,ah.G_,ah.AJ,ah.uT,ah.AK,ah.qC,ah.qD,ah.qE,ah.sM,ah.aB,ah.ak,Cr.cells_one,Cr.aq,Cr.gu,Cr.k9,Cr.AL,Cr.uV,Cr.iU,Cr.iV,Cr.qB,Cr.qF,Cr.aB,Cr.ak,Cr.fV,nC,nD,nE,nF,Sp.cells_one,Sp.aq,Sp.gu,Sp.gN,Sp.aB,Sp.ak,Sp.ec,Sp.fV,nH,nG,φ]
   with_reducible rfl)
  (bw:ob:=by first | trivial | (repeat' (first | exact trivial | omega | apply And.intro | (simp [-List.length_flatMap,-Int.natCast_add];done) | (simp [-List.length_flatMap,-Int.natCast_add] <;> omega))))
  (hh:Φ→bn (bF op) hp F F'=hp':=by (intro φ;simp only [φ,bF,bn,bz,bA,cw,cB,bL,lk,List.lookup,Nat.reduceBEq,BEq.rfl,beq_self_eq_true,if_true,if_false,reduceIte,Nat.reduceEqDiff,Bool.false_eq_true,Option.isSome_some,Option.isSome_none] <;> with_reducible rfl))
  (hk:k+nk=k':=by first | (simp only [Nat.add_zero,Nat.reduceAdd] <;> rfl) | rfl)
  (h:aK P N k0 r ⟨env,hp',k'⟩ K):aK P N k0 (⟨none,op,g⟩::r) ⟨env,hp,k⟩ K:=by
 refine aK.one (fm hg (he φ)) bw ?_
 rw [iX,hh φ,hk];exact h
theorem aK.skip {d:Nat}{op:SO}{t:Nat}{w:Bool}{env:List (Nat×SV)}{hp:Hp}{k:Nat}{s:SV}
  (hg:env.lookup t=some s:=by rfl) (hs:kO w s=true:=by rfl)
  (h:aK P N k0 r ⟨(d,.cW [])::env,hp,k⟩ K):aK P N k0 (⟨some d,op,some (t,w)⟩::r) ⟨env,hp,k⟩ K:=by
 have hh:bn (bF op) hp [] []=hp:=by unfold bn;split <;> rfl
 refine aK.one (e:=⟨.cW [],[],[],0,True⟩) (c_:=[]) (c2:=[]) ?_ trivial ?_
 ·unfold kO at hs
  split at hs
  ·simp only [bJ,hg];rw [if_neg (by simpa using hs)]
  ·simp only [bJ,hg]
  ·cases hs
 ·rw [iX]
  show aK P N k0 r ⟨(d,.cW [])::env,bn (bF op) hp [] [],k+0⟩ _
  rw [hh];exact h
theorem aK.aG {d:Nat}{f:X}{args:List X}{fid:FuncId}{as first cap as':List SV}{env:List (Nat×SV)}{hp F:Hp}{k nk:Nat}{Q:SV→Hp→Prop}
  (hsc:SC P fid as' F k nk Q) (hs:HSub F hp)
  (hf:ev (fun t=>env.lookup t) f=some (.fn (.func fid) first cap):=by (simp only [ev,List.lookup,Nat.reduceBEq] <;> rfl))
  (ha:fK (fun t=>env.lookup t) args=some as:=by (simp only [ev,fK,List.lookup,Nat.reduceBEq] <;> rfl))
  (has:first++as++cap=as':=by first | (simp only [List.nil_append,List.cons_append,List.append_nil] <;> rfl) | rfl)
  (h:∀ v F',Q v F'→aK P N k0 r ⟨(d,v)::env,bn false hp F F',k+nk⟩ K):aK P N k0 (⟨some d,.call f args,none⟩::r) ⟨env,hp,k⟩ K:=by
 refine aK.many (st:=⟨env,hp,k⟩) rfl (fun o hc=>tP hc hf ha (by rw [has];exact hsc) hs) rfl fun v F' hq=> ?_
 rw [iX];exact h v F' hq
theorem aK.EN {d:Nat}{f:X}{args:List X}{fid:FuncId}{as first cap as':List SV}{env:List (Nat×SV)}{hp hp' F F':Hp}{k k' nk:Nat}{v v':SV}{Φ:Prop}(φ:Φ)
  (hsc:bB P fid as' F k nk v F')
  (hs:HSub F hp:=by first | exact HSub.nil _ | (repeat (first | exact HSub.nil _ | refine HSub.cons (by rfl) ?_)))
  (hf:ev (fun t=>env.lookup t) f=some (.fn (.func fid) first cap):=by (simp only [ev,List.lookup,Nat.reduceBEq] <;> rfl))
  (ha:fK (fun t=>env.lookup t) args=some as:=by (simp only [ev,fK,List.lookup,Nat.reduceBEq] <;> rfl))
  (has:first++as++cap=as':=by first | (simp only [List.nil_append,List.cons_append,List.append_nil] <;> rfl) | rfl)
  (hv:Φ→v=v':=by intro φ;first | ((simp only [φ]) <;> with_reducible rfl) | with_reducible rfl)
  (hh:Φ→bn false hp F F'=hp':=by (intro φ;simp only [φ,bF,bn,bz,bA,cw,cB,bL,lk,List.lookup,Nat.reduceBEq,BEq.rfl,beq_self_eq_true,if_true,if_false,reduceIte,Nat.reduceEqDiff,Bool.false_eq_true,Option.isSome_some,Option.isSome_none] <;> with_reducible rfl))
  (hk:k+nk=k':=by first | (simp only [Nat.add_zero,Nat.reduceAdd] <;> rfl) | rfl)
  (h:aK P N k0 r ⟨(d,v')::env,hp',k'⟩ K):aK P N k0 (⟨some d,.call f args,none⟩::r) ⟨env,hp,k⟩ K:=by
 refine aK.many (st:=⟨env,hp,k⟩) rfl (fun o hc=>tP hc hf ha (by rw [has];exact hsc) hs) rfl fun w G hq=> ?_
 obtain ⟨rfl,rfl⟩:=hq
 rw [iX]
 obtain rfl:=hv φ
 obtain rfl:=hh φ
 obtain rfl:=hk
 exact h
end
theorem SB.mono {f:FuncId}{args:List SV}{F:Hp}{k nk:Nat}{Q Q':SV→Hp→Prop}(h:SB P f args F k nk Q)(hq:∀ r F,Q r F→Q' r F):SB P f args F k nk Q':=
 ⟨h.1,h.2.1,h.2.2.1,fun μ M w vals h1 h2=>(h.2.2.2 μ M w vals h1 h2).mono fun _ _ ⟨r,F',bh,M',u,e,hQ,x⟩=>⟨r,F',bh,M',u,e,hq r F' hQ,x⟩⟩
theorem SB.args {f:FuncId}{args args':List SV}{F:Hp}{k nk:Nat}{Q:SV→Hp→Prop}(h:SB P f args F k nk Q)(hok:SV.aF (fun n=>decide (n<k)) args'=true)
  (ha:∀ (p:Nat→Prop) (μ:Nat→Nm) (M:Mem) (vs:List Value),aQ p μ M args' vs→aQ p μ M args vs):SB P f args' F k nk Q:=
 ⟨h.1,hok,h.2.2.1,fun μ M w vals h1 h2=>h.2.2.2 μ M w vals (ha _ μ M _ h1) h2⟩
theorem End.mk {k nk:Nat}{rO:List RV}{Q:SV→Hp→Prop}{st:St}{ss:List SV}{ob:Prop}(F':Hp)
  (h1:pT st rO=some (ss,ob):=by rfl)
  (h2:ob:=by simp [fJ])
  (h3:HSub F' st.hp:=by first | exact HSub.nil _ | (repeat (first | exact HSub.nil _ | refine HSub.cons (by rfl) ?_)))
  (h4:Q (gI ss) F')
  (h5:(gI ss).ok (fun n=>decide (n<k+nk))=true:=by first | rfl | simp [gI,SV.ok,SV.aF,ag.an,SV.cm])
  (h6:F'.ok (fun n=>decide (n<k+nk))=true:=by first | rfl | simp [Hp.ok,Ob.ok,SV.ok,SV.aF,ag.an,SV.cm])
  (h7:k+nk≤st.k:=by simp):Go.Sl.Fin k nk rO Q st:=⟨ss,ob,F',h1,h2,h3,h4,h5,h6,h7⟩
theorem SW.aC {N k0:Nat}{st:St}{Q:Exit→St→Prop}{x:X}{y z:cr}(hx:ev (fun t=>st.env.lookup t) x=some (.d (.bool true)))(h1:SW P N k0 y st Q):SW P N k0 (.cond x y z) st Q:=
 SW.cond hx (fun _=>h1) (fun h=>by cases h)
theorem SW.ay {N k0:Nat}{st:St}{Q:Exit→St→Prop}{x:X}{y z:cr}(hx:ev (fun t=>st.env.lookup t) x=some (.d (.bool false)))(h1:SW P N k0 z st Q):SW P N k0 (.cond x y z) st Q:=
 SW.cond hx (fun h=>by cases h) (fun _=>h1)
theorem SW.fI {N k0:Nat}{st:St}{Q:Exit→St→Prop}{α:Type}{x:cr}(I:α→St)(m:α→Nat)(i0:α)(Ft:Nat→Nat){Φ:Prop}(φ:Φ)
  (h0:Φ→bk k0 st (I i0) Ft:=by intro φ;simp [Go.Sl.bk,bf,vY,C0,SV.aP,SV.aM,SV.ok,SV.aF,Ob.aP,Ob.ok,lk,List.lookup,ag.bN,Dt.bN,SV.dW,SV.cm,SV.gX,SV.gK,ag.an,iT,tM,qy,tN,dc,φ])
  (round:∀ i,SW P N k0 x (I i) fun e st'=>match e with | .normal=>∃ j ρ,m j<m i∧bk k0 st' (I j) ρ | e=>Q e st'):SW P N k0 (.loop x) st Q:=SW.loop I m i0 Ft (h0 φ) round
theorem bk.mk {k0:Nat}{st st1:St}{ρ:Nat→Nat}{Φ:Prop}(φ:Φ)(h0:Φ→bk k0 st st1 ρ:=by intro φ;simp [Go.Sl.bk,bf,vY,C0,SV.aP,SV.aM,SV.ok,SV.aF,Ob.aP,Ob.ok,lk,List.lookup,ag.bN,Dt.bN,SV.dW,SV.cm,SV.gX,SV.gK,ag.an,iT,tM,qy,tN,dc,φ]):bk k0 st st1 ρ:=h0 φ
theorem Next.mk {k0:Nat}{st':St}{α:Type}{I:α→St}{m:α→Nat}{i:α}(j:α)(ρ:Nat→Nat){Φ:Prop}(φ:Φ)
  (hm:m j<m i:=by first | omega | (simp;done) | (simp;omega))
  (h0:Φ→bk k0 st' (I j) ρ:=by intro φ;simp [Go.Sl.bk,bf,vY,C0,SV.aP,SV.aM,SV.ok,SV.aF,Ob.aP,Ob.ok,lk,List.lookup,ag.bN,Dt.bN,SV.dW,SV.cm,SV.gX,SV.gK,ag.an,iT,tM,qy,tN,dc,φ]):∃ j ρ,m j<m i∧bk k0 st' (I j) ρ:=⟨j,ρ,hm,h0 φ⟩
end Go.Sl
