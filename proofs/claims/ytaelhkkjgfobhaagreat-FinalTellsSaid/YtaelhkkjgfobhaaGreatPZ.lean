/-
 Final: what a verdict waits for (plain).
-/
import Derived.Test.YtaelhkkjgfobhaaGreatPY
import Derived.Test.YtaelhkkjgfobhaaGreatP6
import Derived.Test.YtaelhkkjgfobhaaGreatPX
set_option linter.unusedSectionVars false
set_option linter.unusedVariables false
set_option linter.unusedSimpArgs false
namespace Go.Proofs.YtaelhkkjgfobhaaGreat
open Go.Sl Go.Proofs
section
structure IM where
 m:MM Dt Int
 c:Nat
def IM.put (M:IM)(d:Dt)(n:Int):IM:=⟨MM.put M.m M.c d n,MM.jl M.m M.c d⟩
def IM.get (M:IM)(d:Dt):Int:=(MM.get M.m d).getD 0
theorem IM.dw (M:IM)(d e:Dt)(n:Int):(M.put d n).get e=if e=d then n else M.get e:=by
 unfold IM.put IM.get;rw [MM.dw]
 split <;> rfl
inductive Reach (eO:Dt→List Dt):Dt→Dt→Prop
 | refl (d:Dt):Reach eO d d
 | step {d t e:Dt} (ht:t∈eO d) (h:Reach eO t e):Reach eO d e
section
variable (eO:Dt→List Dt)
def qw:Nat→IM→Dt→IM
 | 0,M,_=>M
 | n+1,M,d=>if M.get d>0 then M else (eO d).foldl (qw n) (M.put d 1)
variable {eO}
theorem Reach.trans {a b c:Dt}(h:Reach eO a b)(h2:Reach eO b c):Reach eO a c:=by
 induction h with
 | refl=>exact h2
 | step ht _ ih=>exact .step ht (ih h2)
variable {lv:Dt→Nat} (hlv:∀ d t,t∈eO d→lv t<lv d)
include hlv
theorem Reach.low {a b:Dt}(h:Reach eO a b):b=a∨lv b<lv a:=by
 induction h with
 | refl=>exact .inl rfl
 | step ht _ ih=>
  have:=hlv _ _ ht;rcases ih with rfl | h
  ·exact .inr this
  ·exact .inr (by omega)
theorem qx {qD:Dt→Bool}:∀ (n:Nat) (d:Dt),lv d<n→(eF qD eO n d=true↔∀ e,Reach eO d e→qD e=true)
 | 0,_,h=>absurd h (Nat.not_lt_zero _)
 | n + 1,d,h=>by
  simp only [eF,Bool.and_eq_true,List.all_eq_true];constructor
  ·rintro ⟨h1,h2⟩ e he
   cases he with
   | refl=>exact h1
   | step ht hr=>
    have:=hlv _ _ ht;exact (qx n _ (by omega)).1 (h2 _ ht) e hr
  ·intro h1
   refine ⟨h1 d (.refl d),fun t ht=> ?_⟩;have:=hlv _ _ ht;exact (qx n t (by omega)).2 fun e he=>h1 e (.step ht he)
omit hlv in
def IM.H6 (eO:Dt→List Dt)(lv:Dt→Nat)(M:IM)(L:Nat):Prop:=∀ e,M.get e>0→lv e<L→∀ t,t∈eO e→M.get t>0
structure Oh (eO:Dt→List Dt)(lv:Dt→Nat)(M:IM)(d:Dt)(M':IM):Prop where
 up:∀ e,M.get e>0→M'.get e>0
 at_:M'.get d>0
 new:∀ e,M'.get e>0→M.get e>0∨Reach eO d e
 H6:∀ L,lv d<L→M.H6 eO lv L→M'.H6 eO lv L
theorem Gv : ∀ (n:Nat) (M:IM) (d:Dt),lv d<n→Oh eO lv M d (qw eO n M d)
  | 0,_,_,h=>absurd h (Nat.not_lt_zero _)
  | n + 1, M, d,h=>by
    unfold qw
    by_cases hg:M.get d>0
    · rw [if_pos hg]
      exact ⟨fun _ h=>h,hg,fun _ h=> .inl h,fun _ _ h=>h⟩
    · rw [if_neg hg]
      have hp:∀ e,(M.put d 1).get e>0↔M.get e>0∨e=d:=fun e=>by
        rw [IM.dw]
        by_cases e1:e=d
        · simp [e1]
        · simp [e1]
      have hloop:∀ (T:List Dt) (M1:IM),(∀ t,t∈T→t∈eO d)→(∀ e,M1.get e>0→(T.foldl (qw eO n) M1).get e>0)∧(∀ t,t∈T→(T.foldl (qw eO n) M1).get t>0)∧(∀ e,(T.foldl (qw eO n) M1).get e>0→M1.get e>0∨(Reach eO d e∧lv e<lv d))∧(M1.H6 eO lv (lv d)→(T.foldl (qw eO n) M1).H6 eO lv (lv d)):=fun T=>by
        induction T with
        | nil=>exact fun M1 _=>⟨fun _ h=>h,(fun t h=>by cases h),fun _ h=> .inl h,fun h=>h⟩
        | cons t T ih=>
          intro M1 hT;rw [List.foldl_cons];have htd:=hT t (List.mem_cons_self ..);have hlt:=hlv d t htd;obtain ⟨w1,w2,w3,w4⟩:=Gv n M1 t (by omega);obtain ⟨i1,i2,i3,i4⟩:=ih (qw eO n M1 t) fun x hx=>hT x (List.mem_cons_of_mem _ hx)
          refine ⟨fun e he=>i1 e (w1 e he),fun x hx=> ?_,fun e he=> ?_,fun hc=>i4 (w4 _ hlt hc)⟩
          · rcases List.mem_cons.1 hx with rfl | hx
            · exact i1 _ w2
            · exact i2 x hx
          · rcases i3 e he with he | he
            · rcases w3 e he with he | he
              · exact .inl he
              · refine .inr ⟨.step htd he,?_⟩
                rcases he.low hlv with rfl | h
                · exact hlt
                · omega
            · exact .inr he
      obtain ⟨l1,l2,l3,l4⟩:=hloop (eO d) (M.put d 1) fun _ h=>h
      refine ⟨fun e he=>l1 e ((hp e).2 (.inl he)),l1 d ((hp d).2 (.inr rfl)),fun e he=> ?_,fun L hL hc e he hle t ht=> ?_⟩
      · rcases l3 e he with he | he
        · rcases (hp e).1 he with he | rfl
          · exact .inl he
          · exact .inr (.refl _)
        · exact .inr he.1
      · have hc0:(M.put d 1).H6 eO lv (lv d):=fun x hx hlx y hy=>by
          rcases (hp x).1 hx with hx | rfl
          · exact (hp y).2 (.inl (hc x hx (by omega) y hy))
          · omega
        rcases l3 e he with he1 | ⟨_,hl1⟩
        · rcases (hp e).1 he1 with he1 | rfl
          · exact l1 t ((hp t).2 (.inl (hc e he1 hle t ht)))
          · exact l2 t ht
        · exact l4 hc0 e he hl1 t ht
theorem Di {n:Nat}{d:Dt}(h:lv d<n)(e:Dt):(qw eO n ⟨[],0⟩ d).get e>0↔Reach eO d e:=by
 obtain ⟨_,w2,w3,w4⟩:=Gv hlv n ⟨[],0⟩ d h;constructor
 ·intro he
  rcases w3 e he with he | he
  ·exact absurd he (by simp [IM.get,MM.get])
  ·exact he
 ·have hc:∀ L,(qw eO n ⟨[],0⟩ d).H6 eO lv L:=fun L=>by
   have:=w4 (max L (lv d+1)) (by omega) (fun x hx=>absurd hx (by simp [IM.get,MM.get]));exact fun e he hl t ht=>this e he (by omega) t ht
  intro hr;have key:∀ {a b:Dt},Reach eO a b→(qw eO n ⟨[],0⟩ d).get a>0→(qw eO n ⟨[],0⟩ d).get b>0:=fun h=>by
   induction h with
   | refl=>exact id
   | step ht _ ih=>exact fun ha=>ih (hc _ _ ha (Nat.lt_succ_self _) _ ht)
  exact key hr w2
omit hlv in
def IM.good (M:IM):Prop:=MM.wf M.m M.c∧∀ e,MM.has M.m e=true→M.get e>0
omit hlv in
theorem IM.good.put {M:IM}(h:M.good)(d:Dt):(M.put d 1).good:=by
 refine ⟨MM.jy h.1 _ _,fun e he=> ?_⟩;rw [IM.dw]
 by_cases e1:e=d
 ·rw [if_pos e1];decide
 ·rw [if_neg e1]
  refine h.2 e ?_;have:=MM.Br (L:=M.m) (c:=M.c) (a:=d) (v:=(1:Int)) (b:=e);have he':MM.has (MM.put M.m M.c d 1) e=true:=he;rw [this] at he'
  simpa [e1] using he'
omit hlv in
theorem zJ:∀ (n:Nat) (M:IM) (d:Dt),M.good→(qw eO n M d).good
 | 0,_,_,h=>h
 | n + 1,M,d,h=>by
  unfold qw
  split
  ·exact h
  ·have key:∀ (T:List Dt) (M1:IM),M1.good→(T.foldl (qw eO n) M1).good:=fun T=>by
    induction T with
    | nil=>exact fun _ h=>h
    | cons t T ih=>exact fun M1 h1=>ih _ (zJ n M1 t h1)
   exact key _ _ (h.put d)
omit hlv in
theorem IM.Nc:(IM.mk [] 0).good:=⟨MM.kR,fun e he=>by simp [MM.has,MM.get] at he⟩
omit hlv in
theorem IM.good.has {M:IM}(h:M.good)(e:Dt):MM.has M.m e=true↔M.get e>0:=by
 refine ⟨h.2 e,fun hg=> ?_⟩;unfold IM.get at hg;unfold MM.has;cases hm:MM.get M.m e with
 | none=>rw [hm] at hg;exact absurd hg (by decide)
 | some v=>rfl
end
end
section
attribute [local irreducible] SW RW aF SC ai aq j6 Ac
abbrev wH (S:Sh)(X:Ix)(st:aB)(K:KM)(M:IM):Hp:=(13,.map (au Dt.cells iv M.m) M.c)::fH S X st K
theorem zK (S:Sh)(X:Ix)(st:aB)(K:KM)(M:IM){k:Nat}(hk:14≤k):(wH S X st K M).ok (fun n=>decide (n<k))=true:=an (by simp;omega) (bJ _ _) (s8 S X st K (by omega))
abbrev wB (S:Sh)(X:Ix)(st:aB)(K:KM)(M:IM)(d:Dt):Hp:=(14,.box 37 d.cells)::wH S X st K M
theorem Gw (S:Sh)(X:Ix)(st:aB)(K:KM)(M:IM)(d:Dt){k:Nat}(hk:15≤k):(wB S X st K M d).ok (fun n=>decide (n<k))=true:=an (by simp;omega) (by simp [Ob.ok,Dt.ak]) (zK S X st K M (by omega))
theorem Gx (S:Sh)(X:Ix)(st:aB)(K:KM)(M:IM)(d:Dt):∀ y,y∈wB S X st K M d→lk (wB S X st K M d) y.1=some y.2:=fun y hy=>by
 simp only [List.mem_cons,List.not_mem_nil,or_false] at hy;rcases hy with rfl | rfl | rfl | rfl | rfl | rfl | rfl | rfl | rfl | rfl | rfl | rfl | rfl | rfl | rfl <;> rfl
theorem Lx (S:Sh)(X:Ix)(st:aB)(K:KM)(M:IM)(d:Dt)(o:Ob):∀ y,y∈wB S X st K M d→lk ((15,o)::wB S X st K M d) y.1=some y.2:=fun y hy=>by
 simp only [List.mem_cons,List.not_mem_nil,or_false] at hy;rcases hy with rfl | rfl | rfl | rfl | rfl | rfl | rfl | rfl | rfl | rfl | rfl | rfl | rfl | rfl | rfl <;> rfl
abbrev n14:List Nat:=[0,1,2,3,4,5,6,7,8,9,10,11,12,13]
theorem JX (S:Sh)(X:Ix)(st:aB)(K:KM)(M:IM):∀ i,i<14→lk (wH S X st K M) i≠none:=fun i hi=>by
 match i,hi with
 | 0,_ | 1,_ | 2,_ | 3,_ | 4,_ | 5,_ | 6,_ | 7,_ | 8,_ | 9,_ | 10,_ | 11,_ | 12,_ | 13,_=>simp [aa]
theorem JY (S:Sh)(X:Ix)(st:aB)(K:KM)(M:IM)(k:Nat):(wH S X st K M).aC (fF n14 k)=wH S X st K M:=by
 simp [Hp.aC,Ob.aC,SV.aT,SV.aC,fF,lS,jX,bK,eN,cH,dZ,dG]
theorem Gy {S:Sh}{X:Ix}{st:aB}{K:KM}{M M':IM}{d:Dt}(h:SB Tryz.prog final_asker_waits.f [.ptr 0 0,.agg d.cells,.mp 13] (wH S X st K M) 14 0 fun r F=>r= .dm []∧F=wH S X st K M')(k:Nat):aF Tryz.prog final_asker_waits.f [.ptr 0 0,.agg d.cells,.mp 13] (wH S X st K M) k 0 (.dm []) (wH S X st K M'):=by
 have:=SB.pz n14 h (by decide) (fun i hi=>JX S X st K M i hi) k;rw [JY,JY] at this
 simpa [SV.aT,SV.aC,fF,Dt.ay] using this
set_option maxHeartbeats 16000000 in
theorem Gz (S:Sh)(X:Ix)(hX:X.small)(st:aB)(K:KM)(lv:Dt→Nat)(hlv:∀ d t,t∈X.bY d→lv t<lv d)(hT:∀ d,(X.bY d).length<1000000000):
    ∀ (n:Nat) (d:Dt) (M:IM),lv d<n→SB Tryz.prog final_asker_waits.f [.ptr 0 0,.agg d.cells,.mp 13] (wH S X st K M) 14 0 fun r F=>r= .dm []∧F=wH S X st K (qw X.bY n M d):=by
  intro n
  induction n with
  | zero=>exact fun _ _ h=>absurd h (Nat.not_lt_zero _)
  | succ n ih=>
    intro d M hln;refine final_asker_waits.enter (by simp [SV.ax,SV.ok]) (zK S X st K M (Nat.le_refl 14)) (by simp) ?_;dsimp only [final_asker_waits.s,Co.M,Co.J,Co.N,Co.F,Co.Z,Co.b8,Co.av,Co.i6,Co.T,Co.K,Co.E,Co.L,Co.Q,Co.R,Co.x,Co.W,Co.Y,Co.V,Co.D,Co.A,Co.I,Co.S];have a1:=M_ st 6 2 1;have al:(1+1≤(s7 st 6 2 1).length)=True:=eq_true (by rw [zI];decide);have hlk:=jU (kc:=Dt.cells) M.m d;change _=SV.d (.int .i64 (M.get d)) at hlk;have hln1:∀ t,t∈X.bY d→lv t<n:=fun t ht=>by have:=hlv d t ht;omega
    have hS:qw X.bY (n+1) M d=if M.get d>0 then M else (X.bY d).foldl (qw X.bY n) (M.put d 1):=rfl
    rw [hS];clear hS;dsimp only [wH,fH,fT];refine SW.seq ?_;refine SW.g0 [0,1,2,4,6,9,13,25,26,27,28] mixed af ?_;refine SW.seq (SW.seq ?_)
    by_cases hg:M.get d>0
    · have g1:decide (M.get d>0)=true:=decide_eq_true hg
      refine SW.g0 [0,1,2,4,6,9,13,25,26,27,28] mixed (And.intro (hlk) (g1)) ?_;refine SW.aj rfl ?_;rw [if_pos hg];refine SW.ret ?_;exact End.mk (wH S X st K M) (h4:=⟨rfl,rfl⟩) (h6:=zK S X st K M (by decide))
    · have g1:decide (M.get d>0)=false:=decide_eq_false hg
      refine SW.g0 [0,1,2,4,6,9,13,25,26,27,28] mixed (And.intro (hlk) (g1)) ?_;refine SW.ah rfl (SW.skip ?_);rw [if_neg hg];have m1:j8 (au Dt.cells iv M.m) M.c (.agg d.cells) (.d (.int .i64 1)) (MM.idx M.m d)= .map (au Dt.cells iv (M.put d 1).m) (M.put d 1).c:=jV M.m M.c d 1;generalize M.put d 1=M0 at m1 ⊢;refine SW.seq ?_;refine SW.g0 [0,1,2,4,6,9,13,25,26,27,28] mixed (m1) ?_;refine SW.seq ?_;have cT:=Gu X hX d;obtain ⟨V,e,hV,hVT⟩:∃ (V:DV) (e:Int),gJ X d= .dm [.d V,.d (.int .i64 e)]∧(V= .aJ∧X.bY d=[]∨SV.d V=aW (X.bY d)):=by
        unfold gJ Ix.bY
        split
        · exact ⟨_,0,rfl,.inr rfl⟩
        · exact ⟨.aJ,7,rfl,.inl ⟨rfl,rfl⟩⟩
      rw [hV] at cT;refine SW.g1 [0,1,2,4,6,9,13,25,26,27,28] mixed (And.intro (a1) (al)) cT ?_;refine SW.weak id (st1:=⟨[(6,.d V),(0,.ptr 0 0),(2,.mp 13)],wB S X st K M0 d,15⟩) (aK.same (by show 14≤15;decide) (by simp [bp,List.lookup,SV.aC,SV.ok,SV.ax]) (Gw S X st K M0 d (Nat.le_refl _)) (Gx S X st K M0 d)) ?_;refine SW.Nb hVT 6 rfl ?_;obtain ⟨T,hTe⟩:∃ T,X.bY d=T:=⟨_,rfl⟩;have hTl:=hT d;rw [hTe] at hln1 hTl ⊢;clear hVT hV cT hlk g1 hg hTe m1;dsimp only [wB,wH,fH,fT];refine SW.seq ?_;refine SW.g0 [0,1,2,4,6,9,13,25,26,27,28] mixed af ?_;refine SW.block ?_;refine SW.loop (α:={i:Nat // i≤T.length}) (fun i=>⟨[(27,i64 i.1),(26,i64 T.length),(25,aW T),(0,.ptr 0 0),(2,.mp 13)],wB S X st K ((T.take i.1).foldl (qw X.bY n) M0) d,15⟩) (fun i=>T.length - i.1) ⟨0,Nat.zero_le _⟩ id (aK.same (by show 14≤15;decide) (by simp [bp,List.lookup,SV.aC,SV.ok,SV.ax]) (Gw S X st K M0 d (Nat.le_refl _)) (Gx S X st K M0 d)) ?_;rintro ⟨i,hi⟩;dsimp only
      by_cases h:i<T.length
      · have h1:decide ((i:Int)<T.length)=true:=by simp only [decide_eq_true_eq];omega
        obtain ⟨t,hx⟩:=aZ h;have e2:IntKind.i64.wrap ((i:Int)+1)=((i+1:Nat):Int):=wrap_i64 _ (by omega);have hsn:(T.take (i+1)).foldl (qw X.bY n) M0=qw X.bY n ((T.take i).foldl (qw X.bY n) M0) t:=by rw [bH hx,List.foldl_append];rfl
        have cF:=Gy (ih t ((T.take i).foldl (qw X.bY n) M0) (hln1 t (List.mem_of_getElem? hx)));rw [← hsn] at cF;have next:∀ (env:List (Nat×SV)) (hp:Hp) (kz:Nat),(∀ y,y∈wB S X st K ((T.take (i+1)).foldl (qw X.bY n) M0) d→lk hp y.1=some y.2)→bp id 15 env [(27,i64 ((i+1:Nat):Int)),(26,i64 T.length),(25,aW T),(0,.ptr 0 0),(2,.mp 13)]→
            ∃ (j:{i:Nat // i≤T.length}) (ρ:Nat→Nat),T.length - j.1<T.length - i∧aK 14 ⟨env,hp,kz⟩ ⟨[(27,i64 j.1),(26,i64 T.length),(25,aW T),(0,.ptr 0 0),(2,.mp 13)],wB S X st K ((T.take j.1).foldl (qw X.bY n) M0) d,15⟩ ρ:=fun env hp kz g1 g2=>
          ⟨⟨i+1,by omega⟩,id,by show T.length - (i+1)<T.length - i;omega,aK.same (by show 14≤15;decide) g2 (Gw S X st K _ d (Nat.le_refl _)) g1⟩
        generalize (T.take (i+1)).foldl (qw X.bY n) M0=M2 at cF next
        generalize (T.take i).foldl (qw X.bY n) M0=M1 at cF ⊢;dsimp only [wB,wH,fH,fT];refine SW.seq ?_;refine SW.g0 [0,1,2,4,6,9,13,25,26,27,28] mixed (h1) ?_;refine SW.seq (SW.aj rfl (SW.skip ?_));refine SW.seq (SW.block (SW.seq ?_));refine SW.g0 [0,1,2,4,6,9,13,25,26,27,28] mixed (bW hx) ?_;refine SW.g1 [0,1,2,4,6,9,13,25,26,27,28] mixed af cF ?_;refine SW.g0 [0,1,2,4,6,9,13,25,26,27,28] mixed (e2) ?_;exact next _ _ _ (Lx S X st K M2 d _) (by simp [bp,List.lookup,SV.aC,SV.ok,SV.ax])
      · have h1:decide ((i:Int)<T.length)=false:=by simp only [decide_eq_false_iff_not];omega
        have hi2:i=T.length:=by omega
        subst hi2;rw [List.take_length];generalize T.foldl (qw X.bY n) M0=M2;dsimp only [wB,wH,fH,fT];refine SW.seq ?_;refine SW.g0 [0,1,2,4,6,9,13,25,26,27,28] mixed (h1) ?_;have fin:Go.Sl.Fin 14 0 [] (fun r F=>r= .dm []∧F=wH S X st K M2) ⟨[],wH S X st K M2,15⟩:=End.mk (wH S X st K M2) (h3:=fun _ _ h=>h) (h4:=⟨rfl,rfl⟩) (h6:=zK S X st K M2 (by decide));refine SW.seq (SW.ah rfl (SW.weak id (st1:=⟨[],wH S X st K M2,15⟩) (aK.same (by show 14≤15;decide) trivial (zK S X st K M2 (by show 14≤15;decide)) (fun y hy=>Gx S X st K M2 d y (List.mem_cons_of_mem _ hy))) (SW.exit ?_)));exact fin
end
section
attribute [local irreducible] SW RW aF SC ai aq
structure I_ {σ:Type}(P:Program)(g:Nat)(first cap:List SV)(Fh:σ→Hp)(nx:σ→Dt→σ)(p:Dt→Bool)(aQ:Nat)(inv:σ→Prop):Prop where
 nd:∀ s,((Fh s).map (·.1)).Nodup
 nm:∀ s s',(Fh s').map (·.1)=(Fh s).map (·.1)
 step:∀ s x,inv s→inv (nx s x)
 ok:∀ s x q,(Fh s).ok q=true→(Fh (nx s x)).ok q=true
 call:∀ s x k,inv s→(Fh s).ok (fun n=>decide (n<k))=true→aF P g (first++[.agg x.cells]++cap) (Fh s) k aQ (bl (p x)) (Fh (nx s x))
 a1:∀ s q,(Fh s).ok q=true→SV.ax q first=true∧SV.ax q cap=true
 cl:∀ s,(Fh s).ok (fun m=>(lk (Fh s) m).isSome)=true
section
variable {σ:Type} {g:Nat} {first cap:List SV} {Fh:σ→Hp} {nx:σ→Dt→σ} {p:Dt→Bool} {aQ:Nat} {inv:σ→Prop}
variable (hI:I_ Tryz.prog g first cap Fh nx p aQ inv)
include hI
theorem I_.out {bx:Nat}{s:σ}(h:lk (Fh s) bx=none)(s':σ):lk (Fh s') bx=none:=iN (by rw [hI.nm s s'];exact d_ h)
set_option maxHeartbeats 4000000 in
theorem GA (s:σ)(hs:inv s)(d:Dt)(bx k:Nat)(AL:lk (Fh s) bx=none)(hbk:bx<k)(hok:(Fh s).ok (fun n=>decide (n<k))=true):
  SB Tryz.prog final_asker_some_1.f [.agg d.cells,.ptr bx 0] ((bx,.box 67 [.fn (.func g) first cap])::Fh s) k (1+aQ) fun r F=>r=bl (!p d)∧F=(bx,.box 67 [.fn (.func g) first cap])::Fh (nx s d):=by
 obtain ⟨o1,o2⟩:=hI.a1 s _ hok;refine final_asker_some_1.enter (by simp [SV.ax,SV.ok,hbk,Dt.ak]) (an (by simpa using hbk) (by simp [Ob.ok,SV.ax,SV.ok,o1,o2]) hok) (by simp) ?_;dsimp only [final_asker_some_1.s,Co.M,Co.J,Co.F,Co.B,Co.T,Co.K,Co.x,Co.O,Co.S];have f1:=cQ (show k≠bx by omega);have t0:List.lookup k (Fh s)=none:=Hp.out hok (Nat.le_refl _);have t1:lk (Fh s) k=none:=t0;refine SW.seq ?_;refine SW.g0 [0,1,2,3] mixed (And.intro (f1) (t0)) ?_;refine SW.seq ?_;have hc:=hI.call s d (k+1) hs (Hp.bB (Nat.le_succ _) hok);have hsub:HSub (Fh s) ((k,.box 37 d.cells)::(bx,.box 67 [.fn (.func g) first cap])::Fh s):=ir t1 (ir AL fun _ _ h=>h);have n9:(((k,Ob.box 37 d.cells)::(bx,Ob.box 67 [.fn (.func g) first cap])::Fh s:Hp).map (·.1)).Nodup:=jN (by rw [aa,if_neg (by omega)];exact t1) (jN AL (hI.nd s));have hm:bZ (b_ ((k,Ob.box 37 d.cells)::(bx,Ob.box 67 [.fn (.func g) first cap])::Fh s) (Fh (nx s d)) (Fh s)) (Fh (nx s d))=(k,.box 37 d.cells)::(bx,.box 67 [.fn (.func g) first cap])::Fh (nx s d):=
  k9 (pre:=[(k,.box 37 d.cells),(bx,.box 67 [.fn (.func g) first cap])]) (hI.nm _ _) n9
 refine SW.g1 [0,1,2,3] mixed (And.intro (f1) (hm)) (And.intro hsub hc) ?_;have hok2:=hI.ok s d _ (Hp.bB (show k≤k+(1+aQ) by omega) hok);obtain ⟨q1,q2⟩:=hI.a1 s _ (Hp.bB (show k≤k+(1+aQ) by omega) hok);refine SW.ret ?_;exact End.mk ((bx,.box 67 [.fn (.func g) first cap])::Fh (nx s d)) (h3:=fun n ob hn=>by
  have hk:n≠k:=fun e=>by
   rw [e,aa,if_neg (by omega),hI.out t1] at hn;cases hn
  rw [aa,if_neg hk];exact hn) (h4:=⟨by cases p d <;> rfl,rfl⟩) (h6:=an (by simp;omega) (by simp [Ob.ok,SV.ax,SV.ok,q1,q2]) hok2) (h7:=by show k+(1+aQ)≤k+1+aQ;omega)
theorem JZ {bx:Nat}(s:σ):Hp.ok (fun m=>(lk ((bx,Ob.box 67 [.fn (.func g) first cap])::Fh s) m).isSome) ((bx,.box 67 [.fn (.func g) first cap])::Fh s)=true:=by
 have h2:(Fh s).ok (fun m=>(lk ((bx,Ob.box 67 [.fn (.func g) first cap])::Fh s) m).isSome)=true:=Hp.ez (fun m hm=>by
  rw [aa]
  split
  ·rfl
  ·exact hm) (hI.cl s)
 obtain ⟨b1,b2⟩:=hI.a1 s _ h2;exact an (by simp [aa]) (by simp only [Ob.ok,SV.ax,SV.ok,b1,b2,Bool.and_true]) h2
theorem Dj {bx:Nat}(AL:∀ s,lk (Fh s) bx=none):sO Tryz.prog final_asker_some_1.f [] [.ptr bx 0] (fun s=>(bx,.box 67 [.fn (.func g) first cap])::Fh s) (fun s x=>(nx s x,!p x)) (1+aQ) (fun _ s=>inv s) (fun _=>True) 1000000000 where
 nd s:=jN (AL s) (hI.nd s)
 nm s x:=by rw [List.map_cons,List.map_cons,hI.nm s]
 nx _ s x h _ _:=hI.step s x h
 ok s x q h:=by
  simp only [Hp.ok,List.all_cons,Bool.and_eq_true] at h ⊢;exact ⟨h.1,hI.ok s x q h.2⟩
 call i s x k h _ _ hk:=by
  have hk2:(Fh s).ok (fun n=>decide (n<k))=true:=by
   simp only [Hp.ok,List.all_cons,Bool.and_eq_true] at hk ⊢;exact hk.2
  have hbk:bx<k:=by
   simp only [Hp.ok,List.all_cons,Bool.and_eq_true,decide_eq_true_eq] at hk;exact hk.1.1
  unfold aF;have hqo:=JZ hI (bx:=bx) s;refine (GA hI s h x bx k (AL s) hbk hk2).here _ (fun m hm e=>by rw [e] at hm;cases hm) (by simp [SV.ax,SV.ok,Dt.ak,aa]) hqo ?_;rintro r F ⟨rfl,rfl⟩ _ _;refine ⟨by cases p x <;> rfl,?_⟩;have e1:(lk ((bx,Ob.box 67 [.fn (.func g) first cap])::Fh s) bx).isSome=true:=by simp [aa]
  have e3:(Fh s).ok (fun m=>(lk ((bx,Ob.box 67 [.fn (.func g) first cap])::Fh s) m).isSome)=true:=by
   unfold Hp.ok at hqo ⊢;rw [List.all_cons,Bool.and_eq_true] at hqo;exact hqo.2
  have e4:=hI.ok s x _ e3;obtain ⟨b1,b2⟩:=hI.a1 _ _ e4;refine Hp.ez (fun m hm=>by rw [hm];rfl) (an e1 ?_ e4);simp only [Ob.ok,SV.ax,SV.ok,b1,b2,Bool.and_true]
 a1 s q h:=by
  simp only [Hp.ok,List.all_cons,Bool.and_eq_true] at h;exact ⟨rfl,by simp [SV.ax,SV.ok,h.1.1]⟩
omit hI in
theorem w_ {pre F F' G:Hp}(he:F.map (·.1)=F'.map (·.1))(hn:((pre++F).map (·.1)).Nodup)(hG:∀ n,n∈F.map (·.1)→(lk G n).isSome=true):bZ (b_ (pre++F) G F) F'=pre++F':=by
 have h1:=k9 (pre:=pre) he hn;rw [jE fun m hm=>by rw [he] at hm;obtain ⟨q,hq⟩:=iX hm;rw [hq];rfl] at h1;rw [jE hG];exact h1
theorem Ja (s:σ):∀ (l:List Dt),(eP (fun s x=>(nx s x,!p x)) s l).1=l.filter p:=fun l=>by
 induction l generalizing s with
 | nil=>rfl
 | cons x l ih=>
  simp only [eP,ih,List.filter_cons];cases p x <;> rfl
set_option maxHeartbeats 4000000 in
theorem B2 (s:σ)(hs:inv s)(a sh x m:Nat)(st:aB)(ds:List Dt)(hds:ds.length<1000000000)(k:Nat)(hok:(Fh s).ok (fun n=>decide (n<k))=true)(ha:lk (Fh s) a=some (.box 134 (s7 st sh x m)))
    (hD:aF Tryz.prog shape_Shape_Dots.f [.ptr sh 0] (Fh s) (k+1) 2 (.gs (k+2) ds.length) ((k+2,kE ds (k+2))::Fh s)) (hall:∀ s n,k≤n→lk (Fh s) n=none):
    SB Tryz.prog final_asker_some.f [.ptr a 0,.fn (.func g) first cap] (Fh s) k (3+(ds.length*(1+aQ)+ds.length*(1+aQ+1))) fun r F=>∃ s',inv s'∧r= .gs (k+2) (ds.filter p).length∧F=(k+2,kE (ds.filter p) (k+2))::Fh s':=by
  obtain ⟨o1,o2⟩:=hI.a1 s _ hok;have hak:a<k:=by simpa using (Hp.eW hok ha).1
  refine final_asker_some.enter (by simp [SV.ax,SV.ok,hak,o1,o2]) hok (by simp) ?_;dsimp only [final_asker_some.s,Co.M,Co.J,Co.F,Co.T,Co.P,Co.Q,Co.x,Co.D,Co.A,Co.S];have t0:List.lookup k (Fh s)=none:=hall s k (Nat.le_refl _);have f1:=cQ (show a≠k by omega);have ha':List.lookup a (Fh s)=some (.box 134 (s7 st sh x m)):=ha;have a0:=Gr st sh x m;have al:(0+1≤(s7 st sh x m).length)=True:=eq_true (by rw [zI];decide);refine SW.seq ?_;refine SW.g0 [0,1,3,4] mixed (t0) ?_;have AL:∀ s,lk (Fh s) k=none:=fun s=>hall s k (Nat.le_refl _)
  have t1:=AL s;have t2:lk (Fh s) (k+2)=none:=hall s _ (by omega);have hsub:HSub (Fh s) ((k,.box 67 [.fn (.func g) first cap])::Fh s):=ir t1 fun _ _ h=>h
  have n9:(([(k,Ob.box 67 [.fn (.func g) first cap])]++Fh s:Hp).map (·.1)).Nodup:=jN t1 (hI.nd s);have hno:lk ((k,Ob.box 67 [.fn (.func g) first cap])::Fh s) (k+2)=none:=by rw [aa,if_neg (by omega)];exact t2
  have hin:∀ n,n∈(Fh s).map (·.1)→(lk (Fh s) n).isSome=true:=fun n hn=>by obtain ⟨q,hq⟩:=iX hn;rw [hq];rfl
  have hm1:bZ (b_ ((k,Ob.box 67 [.fn (.func g) first cap])::Fh s) ((k+2,kE ds (k+2))::Fh s) (Fh s)) (Fh s)=(k,.box 67 [.fn (.func g) first cap])::Fh s:=
    w_ (pre:=[(k,.box 67 [.fn (.func g) first cap])]) rfl n9 fun n hn=>by
      rw [aa]
      split
      · rfl
      · exact hin n hn
  have t2':List.lookup (k+2) (Fh s)=none:=t2;have f2:=cQ (show k+2≠k by omega);have ek:k+1+2=k+3:=rfl;have cM:=Dj hI AL;have hokB:Hp.ok (fun n=>decide (n<k+3)) ((k,Ob.box 67 [.fn (.func g) first cap])::Fh s)=true:=an (by simp) (by
    have:=hI.a1 s _ (Hp.bB (show k≤k+3 by omega) hok);simp [Ob.ok,SV.ax,SV.ok,this.1,this.2]) (Hp.bB (show k≤k+3 by omega) hok)
  have cD:=A2 cM ds s hds (by omega) (fun _ _=>trivial) hs (k+2) (k+3) (by omega) ⟨rfl,hokB,by rw [aa,if_neg (by omega)];exact t2⟩ (JZ hI s);obtain ⟨s',hs'⟩:∃ s',(eP (fun s x=>(nx s x,!p x)) s ds).2=s':=⟨_,rfl⟩;have hk1:(eP (fun s x=>(nx s x,!p x)) s ds).1=ds.filter p:=Ja hI s ds;have hinv:inv s':=by
    rw [← hs'];have key:∀ (l:List Dt) (s:σ),inv s→inv (eP (fun s x=>(nx s x,!p x)) s l).2:=fun l=>by
      induction l with
      | nil=>exact fun s h=>h
      | cons x l ih=>exact fun s h=>ih _ (hI.step s x h)
    exact key ds s hs
  rw [hs',hk1] at cD;have hm2:bZ (b_ ((k+2,kE ds (k+2))::(k,Ob.box 67 [.fn (.func g) first cap])::Fh s) ((k+2,kE (ds.filter p) (k+2))::(k,.box 67 [.fn (.func g) first cap])::Fh s') (Fh s)) (Fh s')=(k+2,kE ds (k+2))::(k,.box 67 [.fn (.func g) first cap])::Fh s':=
    w_ (pre:=[(k+2,kE ds (k+2)),(k,Ob.box 67 [.fn (.func g) first cap])]) (hI.nm s' s) (jN hno n9) fun n hn=>by
      rw [aa]
      split
      · rfl
      · rw [aa]
        split
        · rfl
        · rw [← hI.nm s s'] at hn
          obtain ⟨q,hq⟩:=iX hn;rw [hq];rfl
  refine SW.seq ?_
  (have fx:=(And.intro (f1) (And.intro (f2) (And.intro (ha') (And.intro (a0) (And.intro (al) (And.intro (hm1) (And.intro (hm2) (And.intro (t2') (ek)))))))));refine SW.bT [0,1,3,4] mixed ?_;(repeat (first | refine RW.ro fx (h:= ?_) | refine RW.skip (h:= ?_) | refine RW.op fx (h:= ?_) | refine RW.dD fx (h:= ?_) | refine RW.aY (h:= ?_) | (refine RW.aM (h:= ?_);(first | refine ai.mk fx (hs:=hsub) (hc:=hD) (h:= ?_) | refine ai.mk fx (hs:=(fun _ _ h=>h)) (hc:=cD) (h:= ?_)))));refine RW.nil ⟨gU (by kernel_rfl),aq.mk (h:= ?_)⟩)
  have hok2:(Fh s').ok (fun n=>decide (n<k+(3+(ds.length*(1+aQ)+ds.length*(1+aQ+1)))))=true:=by
    have e:=vb cM ds s (q:=fun n=>decide (n<k+(3+(ds.length*(1+aQ)+ds.length*(1+aQ+1))))) (Hp.bB (by omega) hokB);rw [hs'] at e;unfold Hp.ok at e ⊢;rw [List.all_cons,Bool.and_eq_true] at e;exact e.2
  refine SW.ret ?_;exact End.mk ((k+2,kE (ds.filter p) (k+2))::Fh s') (h3:=fun n ob hn=>by
    rw [aa] at hn ⊢
    split at hn
    · rename_i e;rw [if_pos e];exact hn
    · rename_i e
      rw [if_neg e,aa,if_neg]
      · exact hn
      · intro e2
        rw [e2,AL s'] at hn;cases hn) (h4:=⟨s',hinv,rfl,rfl⟩) (h5:=by simp [eH,SV.ok];omega) (h6:=an (by simp;omega) (SV.br _) hok2) (h7:=by show k+(3+_)≤k+1+2+_;omega)
end
end
section
attribute [local irreducible] SW RW aF SC ai aq j6 Ac
abbrev Nd (S:Sh)(X:Ix)(st:aB)(K:KM):Hp:=(17,.box 134 (s7 st 11 15 16))::(16,.map (au Dt.cells kv K.m) K.c)::(15,.box 110 [.any,.mp 12,.mp 13,.mp 14])::(12,.map (au Dt.cells ov X.ops) X.co)::(13,.map (au Dt.cells dn X.ch) X.cc)::(14,.map (au Dt.cells dn X.lR) X.cf)::
 [(11,.box 117 [.ptr 3 0,.mp 8,.mp 9,.mp 10]),(8,.map (au Dt.cells ov S.ops) S.co),(9,.map (au Dt.cells iv S.fZ) S.ca),(10,.map (au Dt.cells dv S.l9) S.cl),(3,.box 166 [.mp 1,.mp 2]),(1,.map (au Dt.cells cv S.tr) S.ct),(2,.map (au Dt.cells ov S.md) S.cm)]
abbrev Pe:List Nat:=[17,16,15,12,13,14,11,8,9,10,3,1,2]
theorem Jb (S:Sh)(X:Ix)(st:aB)(K:KM)(q:Nat→Bool)(h:∀ n,n∈Pe→q n=true):(Nd S X st K).ok q=true:=by
 refine an (h 17 (by decide)) (ye _ _ _ _ _ ⟨h 11 (by decide),h 15 (by decide),h 16 (by decide)⟩) (an (h 16 (by decide)) (nS _ _) (an (h 15 (by decide)) (by simp [Ob.ok,SV.ax,SV.ok,h 12,h 13,h 14]) (an (h 12 (by decide)) (bq _ _) (an (h 13 (by decide)) (eB _ _) (an (h 14 (by decide)) (eB _ _) ?_)))));refine an (h 11 (by decide)) (by simp [Ob.ok,SV.ax,SV.ok,h 3,h 8,h 9,h 10]) (an (h 8 (by decide)) (bq _ _) (an (h 9 (by decide)) (bJ _ _) (an (h 10 (by decide)) (jf _ _) (an (h 3 (by decide)) (by simp [Ob.ok,SV.ax,SV.ok,h 1,h 2]) (an (h 1 (by decide)) (gT _ _) (an (h 2 (by decide)) (bq _ _) rfl))))))
abbrev zL (S:Sh)(X:Ix)(st:aB)(K:KM):Hp:=(18,.box 134 (s7 st 12 16 17))::(17,.map (au Dt.cells kv K.m) K.c)::(16,.box 110 [.any,.mp 13,.mp 14,.mp 15])::(13,.map (au Dt.cells ov X.ops) X.co)::(14,.map (au Dt.cells dn X.ch) X.cc)::(15,.map (au Dt.cells dn X.lR) X.cf)::
 [(12,.box 117 [.ptr 4 0,.mp 9,.mp 10,.mp 11]),(9,.map (au Dt.cells ov S.ops) S.co),(10,.map (au Dt.cells iv S.fZ) S.ca),(11,.map (au Dt.cells dv S.l9) S.cl),(4,.box 166 [.mp 2,.mp 3]),(2,.map (au Dt.cells cv S.tr) S.ct),(3,.map (au Dt.cells ov S.md) S.cm)]
abbrev LW:List Nat:=[18,17,16,13,14,15,12,9,10,11,4,2,3]
theorem B3 (S:Sh)(X:Ix)(st:aB)(K:KM)(k:Nat):(fH S X st K).aC (fF LW k)=zL S X st K:=by
 simp [Hp.aC,Ob.aC,SV.aT,SV.aC,fF,lS,jX,bK,eN,cH,dZ,dG]
theorem tO (S:Sh)(X:Ix)(st:aB)(K:KM)(q:Nat→Bool)(h:∀ n,n∈LW→q n=true):(zL S X st K).ok q=true:=by
 refine an (h 18 (by decide)) (ye _ _ _ _ _ ⟨h 12 (by decide),h 16 (by decide),h 17 (by decide)⟩) (an (h 17 (by decide)) (nS _ _) (an (h 16 (by decide)) (by simp [Ob.ok,SV.ax,SV.ok,h 13,h 14,h 15]) (an (h 13 (by decide)) (bq _ _) (an (h 14 (by decide)) (eB _ _) (an (h 15 (by decide)) (eB _ _) ?_)))));refine an (h 12 (by decide)) (by simp [Ob.ok,SV.ax,SV.ok,h 4,h 9,h 10,h 11]) (an (h 9 (by decide)) (bq _ _) (an (h 10 (by decide)) (bJ _ _) (an (h 11 (by decide)) (jf _ _) (an (h 4 (by decide)) (by simp [Ob.ok,SV.ax,SV.ok,h 2,h 3]) (an (h 2 (by decide)) (gT _ _) (an (h 3 (by decide)) (bq _ _) rfl))))))
abbrev Oi (S:Sh)(X:Ix)(st:aB)(K:KM):Hp:=(19,.box 134 (s7 st 13 17 18))::(18,.map (au Dt.cells kv K.m) K.c)::(17,.box 110 [.any,.mp 14,.mp 15,.mp 16])::(14,.map (au Dt.cells ov X.ops) X.co)::(15,.map (au Dt.cells dn X.ch) X.cc)::(16,.map (au Dt.cells dn X.lR) X.cf)::
 [(13,.box 117 [.ptr 5 0,.mp 10,.mp 11,.mp 12]),(10,.map (au Dt.cells ov S.ops) S.co),(11,.map (au Dt.cells iv S.fZ) S.ca),(12,.map (au Dt.cells dv S.l9) S.cl),(5,.box 166 [.mp 3,.mp 4]),(3,.map (au Dt.cells cv S.tr) S.ct),(4,.map (au Dt.cells ov S.md) S.cm)]
abbrev ON:List Nat:=[19,18,17,14,15,16,13,10,11,12,5,3,4]
theorem GB (S:Sh)(X:Ix)(st:aB)(K:KM):Hp.aC (· +1) (Nd S X st K)=zL S X st K:=by
 simp only [Hp.aC,List.map_cons,List.map_nil,Ob.aC,SV.aT,SV.aC,lS,jX,dG,bK,dZ,cH,eN]
theorem GC (S:Sh)(X:Ix)(st:aB)(K:KM):Hp.aC (· +2) (Nd S X st K)=Oi S X st K:=by
 simp only [Hp.aC,List.map_cons,List.map_nil,Ob.aC,SV.aT,SV.aC,lS,jX,dG,bK,dZ,cH,eN]
abbrev oO (l:List ag):Prop:=∀ o,o∈l→o.kind<256∧o.mN∧o.cl.length≤1048576
theorem Pf (st:aB):cN (cN (cN (cN [SV.d .j0,.d .j0,.d (.int .u32 0),.d (.int .u32 0),.d (.int .u32 0),.d (.int .u32 0),.d (.int .u32 0),.d (.int .u32 0),.d (.int .u32 0),.d (.int .u32 0),.d .jj] 0 [.ptr 11 0]) 1 [.ptr 15 0]) 2 st.cells) 10 [.mp 16]=s7 st 11 15 16:=rfl
theorem Pg (st:aB):11≤(cN (cN (cN [SV.d .j0,.d .j0,.d (.int .u32 0),.d (.int .u32 0),.d (.int .u32 0),.d (.int .u32 0),.d (.int .u32 0),.d (.int .u32 0),.d (.int .u32 0),.d (.int .u32 0),.d .jj] 0 [.ptr 11 0]) 1 [.ptr 15 0]) 2 st.cells).length:=Nat.le_refl 11
set_option maxHeartbeats 4000000 in
theorem B4 (l:List ag)(hl:l.length≤80)(hd:oO l)(st:aB):SB Tryz.prog final_asks.f [ops l,.agg st.cells] [] 0 18 fun r F=>∃ S,∃ h:bR l S,r= .ptr 17 0∧F=Nd S h.X st ⟨[],0⟩:=by
 refine final_asks.enter (by first | rfl | simp [SV.ok,SV.ax]) (by first | rfl | simp [Hp.ok,Ob.ok,SV.ok,SV.ax,aB.ak]) (by simp) ?_;dsimp only [final_asks.s,Co.M,Co.J,Co.F,Co.av,Co.K,Co.P,Co.x,Co.S];refine SW.seq ?_;refine SW.g0 [0,1,3,4,5] mixed af ?_;refine SW.seq (SW.vC ?_);(repeat (first | refine bu.op af (h:= ?_) | refine bu.dD af (h:= ?_) | refine bu.skip (h:= ?_)));refine bu.aM (Lu l (by omega) (fun o ho=>⟨(hd o ho).1,(hd o ho).2.1⟩)) (HSub.nil _) (h:= ?_);rintro _ _ ⟨S,h,rfl,rfl⟩;simp only [bS,bZ,b_,fC,fK,cM,lk,List.lookup,Nat.reduceBEq,BEq.rfl,beq_self_eq_true,if_true,if_false,reduceIte,Nat.reduceEqDiff,Bool.false_eq_true,Option.isSome_some,Option.isSome_none,Nat.reduceAdd];(repeat (first | refine bu.op af (h:= ?_) | refine bu.dD af (h:= ?_) | refine bu.skip (h:= ?_)));refine bu.nil ?_;have hN:=h.Lv hl (h.short hd);have sA:=Pf st;have sB:=Pg st;have sC:(s7 st 11 15 16).all SV.dO=true:=rfl;refine SW.seq ?_;refine SW.g1 [0,1,3,4,5] mixed (And.intro (sA) (sC)) hN ?_;refine SW.ret ?_;exact End.mk (Nd S h.X st ⟨[],0⟩) (h4:=⟨S,h,rfl,rfl⟩) (h6:=Jb S _ st _ _ (by decide))
theorem GD (l:List ag)(hl:l.length≤80)(hd:oO l)(st:aB):SC Tryz.prog final_asks.f [ops l,.agg st.cells] [] 1 18 fun r F=>∃ S,∃ h:bR l S,r= .ptr 18 0∧F=zL S h.X st ⟨[],0⟩:=by
 have:=SB.at (B4 l hl hd st) (· +1) 1 (fun n m h=>absurd h (Nat.not_lt_zero n)) (fun n h=>absurd h (Nat.not_lt_zero n)) (fun i _=>by show 0+i+1=1+i;omega);rw [show SV.aT (· +1) [ops l,.agg st.cells]=[ops l,.agg st.cells] by simp [SV.aT,SV.aC,aB.ay]] at this;refine SC.mono (show SC Tryz.prog final_asks.f [ops l,.agg st.cells] [] 1 18 _ from this) ?_;rintro r F ⟨r0,F0,⟨S,h,rfl,rfl⟩,rfl,rfl⟩;exact ⟨S,h,rfl,GB _ _ _ _⟩
theorem Ly (l:List ag)(hl:l.length≤80)(hd:oO l)(st:aB):SC Tryz.prog final_asks.f [ops l,.agg st.cells] [] 2 18 fun r F=>∃ S,∃ h:bR l S,r= .ptr 19 0∧F=Oi S h.X st ⟨[],0⟩:=by
 have:=SB.at (B4 l hl hd st) (· +2) 2 (fun n m h=>absurd h (Nat.not_lt_zero n)) (fun n h=>absurd h (Nat.not_lt_zero n)) (fun i _=>by show 0+i+2=2+i;omega);rw [show SV.aT (· +2) [ops l,.agg st.cells]=[ops l,.agg st.cells] by simp [SV.aT,SV.aC,aB.ay]] at this;refine SC.mono (show SC Tryz.prog final_asks.f [ops l,.agg st.cells] [] 2 18 _ from this) ?_;rintro r F ⟨r0,F0,⟨S,h,rfl,rfl⟩,rfl,rfl⟩;exact ⟨S,h,rfl,GC _ _ _ _⟩
end
end Go.Proofs.YtaelhkkjgfobhaaGreat
