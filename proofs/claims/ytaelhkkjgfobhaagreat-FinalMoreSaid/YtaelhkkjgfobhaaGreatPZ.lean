/-
 Final: what a verdict waits for (plain).
-/
import Derived.Test.YtaelhkkjgfobhaaGreatPY
import Derived.Test.YtaelhkkjgfobhaaGreatP6
import Derived.Test.YtaelhkkjgfobhaaGreatPX
set_option linter.unusedSectionVars false
set_option linter.unusedVariables false
set_option linter.unusedSimpArgs false
namespace Go.Proofs.YtaelhkkjgfobhaaGreat
open Go.Sl Go.Proofs
section
structure IM where
 m:MM Dt Int
 c:Nat
def IM.put (M:IM)(d:Dt)(n:Int):IM:=⟨MM.put M.m M.c d n,MM.iw M.m M.c d⟩
def IM.get (M:IM)(d:Dt):Int:=(MM.get M.m d).getD 0
theorem IM.cQ (M:IM)(d e:Dt)(n:Int):(M.put d n).get e=if e=d then n else M.get e:=by
 unfold IM.put IM.get;rw [MM.cQ]
 split <;> rfl
inductive Reach (dY:Dt→List Dt):Dt→Dt→Prop
 | refl (d:Dt):Reach dY d d
 | step {d t e:Dt} (ht:t∈dY d) (h:Reach dY t e):Reach dY d e
section
variable (dY:Dt→List Dt)
def o_:Nat→IM→Dt→IM
 | 0,M,_=>M
 | n+1,M,d=>if M.get d>0 then M else (dY d).foldl (o_ n) (M.put d 1)
variable {dY}
theorem Reach.trans {a b c:Dt}(h:Reach dY a b)(h2:Reach dY b c):Reach dY a c:=by
 induction h with
 | refl=>exact h2
 | step ht _ ih=>exact .step ht (ih h2)
variable {lv:Dt→Nat} (hlv:∀ d t,t∈dY d→lv t<lv d)
include hlv
theorem Reach.low {a b:Dt}(h:Reach dY a b):b=a∨lv b<lv a:=by
 induction h with
 | refl=>exact .inl rfl
 | step ht _ ih=>
  have:=hlv _ _ ht;rcases ih with rfl | h
  ·exact .inr this
  ·exact .inr (by omega)
theorem pg {pE:Dt→Bool}:∀ (n:Nat) (d:Dt),lv d<n→(dS pE dY n d=true↔∀ e,Reach dY d e→pE e=true)
 | 0,_,h=>absurd h (Nat.not_lt_zero _)
 | n + 1,d,h=>by
  simp only [dS,Bool.and_eq_true,List.all_eq_true];constructor
  ·rintro ⟨h1,h2⟩ e he
   cases he with
   | refl=>exact h1
   | step ht hr=>
    have:=hlv _ _ ht;exact (pg n _ (by omega)).1 (h2 _ ht) e hr
  ·intro h1
   refine ⟨h1 d (.refl d),fun t ht=> ?_⟩
   have:=hlv _ _ ht;exact (pg n t (by omega)).2 fun e he=>h1 e (.step ht he)
omit hlv in
def IM.Gj (dY:Dt→List Dt)(lv:Dt→Nat)(M:IM)(L:Nat):Prop:=∀ e,M.get e>0→lv e<L→∀ t,t∈dY e→M.get t>0
structure Mi (dY:Dt→List Dt)(lv:Dt→Nat)(M:IM)(d:Dt)(M':IM):Prop where
 up:∀ e,M.get e>0→M'.get e>0
 at_:M'.get d>0
 new:∀ e,M'.get e>0→M.get e>0∨Reach dY d e
 Gj:∀ L,lv d<L→M.Gj dY lv L→M'.Gj dY lv L
theorem EV : ∀ (n:Nat) (M:IM) (d:Dt),lv d<n→Mi dY lv M d (o_ dY n M d)
  | 0,_,_,h=>absurd h (Nat.not_lt_zero _)
  | n + 1, M, d,h=>by
    unfold o_
    by_cases hg:M.get d>0
    · rw [if_pos hg]
      exact ⟨fun _ h=>h,hg,fun _ h=> .inl h,fun _ _ h=>h⟩
    · rw [if_neg hg]
      have hp:∀ e,(M.put d 1).get e>0↔M.get e>0∨e=d:=fun e=>by
        rw [IM.cQ]
        by_cases e1:e=d
        · simp [e1]
        · simp [e1]
      have hloop:∀ (T:List Dt) (M1:IM),(∀ t,t∈T→t∈dY d)→(∀ e,M1.get e>0→(T.foldl (o_ dY n) M1).get e>0)∧(∀ t,t∈T→(T.foldl (o_ dY n) M1).get t>0)∧(∀ e,(T.foldl (o_ dY n) M1).get e>0→M1.get e>0∨(Reach dY d e∧lv e<lv d))∧(M1.Gj dY lv (lv d)→(T.foldl (o_ dY n) M1).Gj dY lv (lv d)):=fun T=>by
        induction T with
        | nil=>exact fun M1 _=>⟨fun _ h=>h,(fun t h=>by cases h),fun _ h=> .inl h,fun h=>h⟩
        | cons t T ih=>
          intro M1 hT;rw [List.foldl_cons];have htd:=hT t (List.mem_cons_self ..);have hlt:=hlv d t htd;obtain ⟨w1,w2,w3,w4⟩:=EV n M1 t (by omega)
          obtain ⟨i1,i2,i3,i4⟩:=ih (o_ dY n M1 t) fun x hx=>hT x (List.mem_cons_of_mem _ hx)
          refine ⟨fun e he=>i1 e (w1 e he),fun x hx=> ?_,fun e he=> ?_,fun hc=>i4 (w4 _ hlt hc)⟩
          · rcases List.mem_cons.1 hx with rfl | hx
            · exact i1 _ w2
            · exact i2 x hx
          · rcases i3 e he with he | he
            · rcases w3 e he with he | he
              · exact .inl he
              · refine .inr ⟨.step htd he,?_⟩
                rcases he.low hlv with rfl | h
                · exact hlt
                · omega
            · exact .inr he
      obtain ⟨l1,l2,l3,l4⟩:=hloop (dY d) (M.put d 1) fun _ h=>h
      refine ⟨fun e he=>l1 e ((hp e).2 (.inl he)),l1 d ((hp d).2 (.inr rfl)),fun e he=> ?_,fun L hL hc e he hle t ht=> ?_⟩
      · rcases l3 e he with he | he
        · rcases (hp e).1 he with he | rfl
          · exact .inl he
          · exact .inr (.refl _)
        · exact .inr he.1
      · have hc0:(M.put d 1).Gj dY lv (lv d):=fun x hx hlx y hy=>by
          rcases (hp x).1 hx with hx | rfl
          · exact (hp y).2 (.inl (hc x hx (by omega) y hy))
          · omega
        rcases l3 e he with he1 | ⟨_,hl1⟩
        · rcases (hp e).1 he1 with he1 | rfl
          · exact l1 t ((hp t).2 (.inl (hc e he1 hle t ht)))
          · exact l2 t ht
        · exact l4 hc0 e he hl1 t ht
theorem BR {n:Nat}{d:Dt}(h:lv d<n)(e:Dt):(o_ dY n ⟨[],0⟩ d).get e>0↔Reach dY d e:=by
 obtain ⟨_,w2,w3,w4⟩:=EV hlv n ⟨[],0⟩ d h;constructor
 ·intro he
  rcases w3 e he with he | he
  ·exact absurd he (by simp [IM.get,MM.get])
  ·exact he
 ·have hc:∀ L,(o_ dY n ⟨[],0⟩ d).Gj dY lv L:=fun L=>by
   have:=w4 (max L (lv d+1)) (by omega) (fun x hx=>absurd hx (by simp [IM.get,MM.get]))
   exact fun e he hl t ht=>this e he (by omega) t ht
  intro hr;have key:∀ {a b:Dt},Reach dY a b→(o_ dY n ⟨[],0⟩ d).get a>0→(o_ dY n ⟨[],0⟩ d).get b>0:=fun h=>by
   induction h with
   | refl=>exact id
   | step ht _ ih=>exact fun ha=>ih (hc _ _ ha (Nat.lt_succ_self _) _ ht)
  exact key hr w2
omit hlv in
def IM.good (M:IM):Prop:=MM.wf M.m M.c∧∀ e,MM.has M.m e=true→M.get e>0
omit hlv in
theorem IM.good.put {M:IM}(h:M.good)(d:Dt):(M.put d 1).good:=by
 refine ⟨MM.iO h.1 _ _,fun e he=> ?_⟩
 rw [IM.cQ]
 by_cases e1:e=d
 ·rw [if_pos e1];decide
 ·rw [if_neg e1]
  refine h.2 e ?_;have:=MM.Aa (L:=M.m) (c:=M.c) (a:=d) (v:=(1:Int)) (b:=e);have he':MM.has (MM.put M.m M.c d 1) e=true:=he;rw [this] at he'
  simpa [e1] using he'
omit hlv in
theorem yq:∀ (n:Nat) (M:IM) (d:Dt),M.good→(o_ dY n M d).good
 | 0,_,_,h=>h
 | n + 1,M,d,h=>by
  unfold o_
  split
  ·exact h
  ·have key:∀ (T:List Dt) (M1:IM),M1.good→(T.foldl (o_ dY n) M1).good:=fun T=>by
    induction T with
    | nil=>exact fun _ h=>h
    | cons t T ih=>exact fun M1 h1=>ih _ (yq n M1 t h1)
   exact key _ _ (h.put d)
omit hlv in
theorem IM.Lk:(IM.mk [] 0).good:=⟨MM.jV,fun e he=>by simp [MM.has,MM.get] at he⟩
omit hlv in
theorem IM.good.has {M:IM}(h:M.good)(e:Dt):MM.has M.m e=true↔M.get e>0:=by
 refine ⟨h.2 e,fun hg=> ?_⟩
 unfold IM.get at hg;unfold MM.has;cases hm:MM.get M.m e with
 | none=>rw [hm] at hg;exact absurd hg (by decide)
 | some v=>rfl
end
end
section
attribute [local irreducible] SW RW aF SC aj ak jl wN
abbrev wH (S:Sh)(X:Ix)(st:av)(K:KM)(M:IM):Hp:=(13,.map (ai Dt.cells iv M.m) M.c)::fH S X st K
theorem yt (S:Sh)(X:Ix)(st:av)(K:KM)(M:IM){k:Nat}(hk:14≤k):(wH S X st K M).ok (fun n=>decide (n<k))=true:=ah (by simp;omega) (bw _ _) (rN S X st K (by omega))
abbrev wB (S:Sh)(X:Ix)(st:av)(K:KM)(M:IM)(d:Dt):Hp:=(14,.box 37 d.cells)::wH S X st K M
theorem EW (S:Sh)(X:Ix)(st:av)(K:KM)(M:IM)(d:Dt){k:Nat}(hk:15≤k):(wB S X st K M d).ok (fun n=>decide (n<k))=true:=ah (by simp;omega) (by simp [Ob.ok,Dt.an]) (yt S X st K M (by omega))
theorem EX (S:Sh)(X:Ix)(st:av)(K:KM)(M:IM)(d:Dt):∀ y,y∈wB S X st K M d→lk (wB S X st K M d) y.1=some y.2:=fun y hy=>by
 simp only [List.mem_cons,List.not_mem_nil,or_false] at hy;rcases hy with rfl | rfl | rfl | rfl | rfl | rfl | rfl | rfl | rfl | rfl | rfl | rfl | rfl | rfl | rfl <;> rfl
theorem JC (S:Sh)(X:Ix)(st:av)(K:KM)(M:IM)(d:Dt)(o:Ob):∀ y,y∈wB S X st K M d→lk ((15,o)::wB S X st K M d) y.1=some y.2:=fun y hy=>by
 simp only [List.mem_cons,List.not_mem_nil,or_false] at hy;rcases hy with rfl | rfl | rfl | rfl | rfl | rfl | rfl | rfl | rfl | rfl | rfl | rfl | rfl | rfl | rfl <;> rfl
abbrev n14:List Nat:=[0,1,2,3,4,5,6,7,8,9,10,11,12,13]
theorem H9 (S:Sh)(X:Ix)(st:av)(K:KM)(M:IM):∀ i,i<14→lk (wH S X st K M) i≠none:=fun i hi=>by
 match i,hi with
 | 0,_ | 1,_ | 2,_ | 3,_ | 4,_ | 5,_ | 6,_ | 7,_ | 8,_ | 9,_ | 10,_ | 11,_ | 12,_ | 13,_=>simp [aa]
theorem H_ (S:Sh)(X:Ix)(st:av)(K:KM)(M:IM)(k:Nat):(wH S X st K M).aB (eN n14 k)=wH S X st K M:=by
 simp [Hp.aB,Ob.aB,SV.aK,SV.aB,eN,kC,jm,bz,dX,bV,dI,dg]
theorem EY {S:Sh}{X:Ix}{st:av}{K:KM}{M M':IM}{d:Dt}(h:SB Tryz.prog final_asker_waits.f [.ptr 0 0,.agg d.cells,.mp 13] (wH S X st K M) 14 0 fun r F=>r= .dU []∧F=wH S X st K M')(k:Nat):aF Tryz.prog final_asker_waits.f [.ptr 0 0,.agg d.cells,.mp 13] (wH S X st K M) k 0 (.dU []) (wH S X st K M'):=by
 have:=SB.nI n14 h (by decide) (fun i hi=>H9 S X st K M i hi) k
 rw [H_,H_] at this
 simpa [SV.aK,SV.aB,eN,Dt.ax] using this
set_option maxHeartbeats 16000000 in
theorem EZ (S:Sh)(X:Ix)(hX:X.small)(st:av)(K:KM)(lv:Dt→Nat)(hlv:∀ d t,t∈X.bN d→lv t<lv d)(hT:∀ d,(X.bN d).length<1000000000):
    ∀ (n:Nat) (d:Dt) (M:IM),lv d<n→SB Tryz.prog final_asker_waits.f [.ptr 0 0,.agg d.cells,.mp 13] (wH S X st K M) 14 0 fun r F=>r= .dU []∧F=wH S X st K (o_ X.bN n M d):=by
  intro n
  induction n with
  | zero=>exact fun _ _ h=>absurd h (Nat.not_lt_zero _)
  | succ n ih=>
    intro d M hln;refine final_asker_waits.enter (by simp [SV.aA,SV.ok]) (yt S X st K M (Nat.le_refl 14)) (by simp) ?_
    dsimp only [final_asker_waits.s,Co.M,Co.G,Co.J,Co.H,Co.N,Co.F,Co.C,Co.Z,Co.B,Co.b8,Co.ay,Co.bU,Co.i6,Co.z8,Co.cq];have a1:=Lh st 6 2 1;have al:(1+1≤(rM st 6 2 1).length)=True:=eq_true (by rw [yp];decide)
    have hlk:=jW (kc:=Dt.cells) M.m d;change _=SV.d (.int .i64 (M.get d)) at hlk;have hln1:∀ t,t∈X.bN d→lv t<n:=fun t ht=>by have:=hlv d t ht;omega
    have hS:o_ X.bN (n+1) M d=if M.get d>0 then M else (X.bN d).foldl (o_ X.bN n) (M.put d 1):=rfl
    rw [hS];clear hS;dsimp only [wH,fH,fT];refine SW.seq ?_;refine SW.g0 [0,1,2,4,6,9,13,25,26,27,28] mixed af ?_;refine SW.seq (SW.seq ?_)
    by_cases hg:M.get d>0
    · have g1:decide (M.get d>0)=true:=decide_eq_true hg
      refine SW.g0 [0,1,2,4,6,9,13,25,26,27,28] mixed (And.intro (hlk) (g1)) ?_;refine SW.au rfl ?_;rw [if_pos hg];refine SW.ret ?_;exact End.mk (wH S X st K M) (h4:=⟨rfl,rfl⟩) (h6:=yt S X st K M (by decide))
    · have g1:decide (M.get d>0)=false:=decide_eq_false hg
      refine SW.g0 [0,1,2,4,6,9,13,25,26,27,28] mixed (And.intro (hlk) (g1)) ?_;refine SW.aq rfl (SW.skip ?_);rw [if_neg hg];have m1:jA (ai Dt.cells iv M.m) M.c (.agg d.cells) (.d (.int .i64 1)) (MM.idx M.m d)= .map (ai Dt.cells iv (M.put d 1).m) (M.put d 1).c:=jX M.m M.c d 1;generalize M.put d 1=M0 at m1 ⊢;refine SW.seq ?_;refine SW.g0 [0,1,2,4,6,9,13,25,26,27,28] mixed (m1) ?_;refine SW.seq ?_;have cT:=EU X hX d;obtain ⟨V,e,hV,hVT⟩:∃ (V:DV) (e:Int),fW X d= .dU [.d V,.d (.int .i64 e)]∧(V= .aP∧X.bN d=[]∨SV.d V=aY (X.bN d)):=by
        unfold fW Ix.bN
        split
        · exact ⟨_,0,rfl,.inr rfl⟩
        · exact ⟨.aP,7,rfl,.inl ⟨rfl,rfl⟩⟩
      rw [hV] at cT;refine SW.g1 [0,1,2,4,6,9,13,25,26,27,28] mixed (And.intro (a1) (al)) cT ?_;refine SW.weak id (st1:=⟨[(6,.d V),(0,.ptr 0 0),(2,.mp 13)],wB S X st K M0 d,15⟩) (aM.same (by show 14≤15;decide) (by simp [aQ,List.lookup,SV.aB,SV.ok,SV.aA]) (EW S X st K M0 d (Nat.le_refl _)) (EX S X st K M0 d)) ?_
      refine SW.Lj hVT 6 rfl ?_;obtain ⟨T,hTe⟩:∃ T,X.bN d=T:=⟨_,rfl⟩;have hTl:=hT d;rw [hTe] at hln1 hTl ⊢;clear hVT hV cT hlk g1 hg hTe m1;dsimp only [wB,wH,fH,fT];refine SW.seq ?_;refine SW.g0 [0,1,2,4,6,9,13,25,26,27,28] mixed af ?_;refine SW.block ?_;refine SW.loop (α:={i:Nat // i≤T.length}) (fun i=>⟨[(27,i64 i.1),(26,i64 T.length),(25,aY T),(0,.ptr 0 0),(2,.mp 13)],wB S X st K ((T.take i.1).foldl (o_ X.bN n) M0) d,15⟩) (fun i=>T.length - i.1) ⟨0,Nat.zero_le _⟩ id (aM.same (by show 14≤15;decide) (by simp [aQ,List.lookup,SV.aB,SV.ok,SV.aA]) (EW S X st K M0 d (Nat.le_refl _)) (EX S X st K M0 d)) ?_
      rintro ⟨i,hi⟩;dsimp only
      by_cases h:i<T.length
      · have h1:decide ((i:Int)<T.length)=true:=by simp only [decide_eq_true_eq];omega
        obtain ⟨t,hx⟩:=bF h;have e2:IntKind.i64.wrap ((i:Int)+1)=((i+1:Nat):Int):=wrap_i64 _ (by omega)
        have hsn:(T.take (i+1)).foldl (o_ X.bN n) M0=o_ X.bN n ((T.take i).foldl (o_ X.bN n) M0) t:=by rw [fu hx,List.foldl_append];rfl
        have cF:=EY (ih t ((T.take i).foldl (o_ X.bN n) M0) (hln1 t (List.mem_of_getElem? hx)));rw [← hsn] at cF;have next:∀ (env:List (Nat×SV)) (hp:Hp) (kz:Nat),(∀ y,y∈wB S X st K ((T.take (i+1)).foldl (o_ X.bN n) M0) d→lk hp y.1=some y.2)→aQ id 15 env [(27,i64 ((i+1:Nat):Int)),(26,i64 T.length),(25,aY T),(0,.ptr 0 0),(2,.mp 13)]→
            ∃ (j:{i:Nat // i≤T.length}) (ρ:Nat→Nat),T.length - j.1<T.length - i∧aM 14 ⟨env,hp,kz⟩ ⟨[(27,i64 j.1),(26,i64 T.length),(25,aY T),(0,.ptr 0 0),(2,.mp 13)],wB S X st K ((T.take j.1).foldl (o_ X.bN n) M0) d,15⟩ ρ:=fun env hp kz g1 g2=>
          ⟨⟨i+1,by omega⟩,id,by show T.length - (i+1)<T.length - i;omega,aM.same (by show 14≤15;decide) g2 (EW S X st K _ d (Nat.le_refl _)) g1⟩
        generalize (T.take (i+1)).foldl (o_ X.bN n) M0=M2 at cF next
        generalize (T.take i).foldl (o_ X.bN n) M0=M1 at cF ⊢;dsimp only [wB,wH,fH,fT];refine SW.seq ?_;refine SW.g0 [0,1,2,4,6,9,13,25,26,27,28] mixed (h1) ?_;refine SW.seq (SW.au rfl (SW.skip ?_));refine SW.seq (SW.block (SW.seq ?_));refine SW.g0 [0,1,2,4,6,9,13,25,26,27,28] mixed (fS hx) ?_;refine SW.g1 [0,1,2,4,6,9,13,25,26,27,28] mixed af cF ?_;refine SW.g0 [0,1,2,4,6,9,13,25,26,27,28] mixed (e2) ?_;exact next _ _ _ (JC S X st K M2 d _) (by simp [aQ,List.lookup,SV.aB,SV.ok,SV.aA])
      · have h1:decide ((i:Int)<T.length)=false:=by simp only [decide_eq_false_iff_not];omega
        have hi2:i=T.length:=by omega
        subst hi2;rw [List.take_length];generalize T.foldl (o_ X.bN n) M0=M2;dsimp only [wB,wH,fH,fT];refine SW.seq ?_;refine SW.g0 [0,1,2,4,6,9,13,25,26,27,28] mixed (h1) ?_;have fin:Go.Sl.Fin 14 0 [] (fun r F=>r= .dU []∧F=wH S X st K M2) ⟨[],wH S X st K M2,15⟩:=End.mk (wH S X st K M2) (h3:=fun _ _ h=>h) (h4:=⟨rfl,rfl⟩) (h6:=yt S X st K M2 (by decide))
        refine SW.seq (SW.aq rfl (SW.weak id (st1:=⟨[],wH S X st K M2,15⟩) (aM.same (by show 14≤15;decide) trivial (yt S X st K M2 (by show 14≤15;decide)) (fun y hy=>EX S X st K M2 d y (List.mem_cons_of_mem _ hy))) (SW.exit ?_)))
        exact fin
end
section
attribute [local irreducible] SW RW aF SC aj ak
structure G9 {σ:Type}(P:Program)(g:Nat)(first cap:List SV)(Fh:σ→Hp)(nx:σ→Dt→σ)(p:Dt→Bool)(aG:Nat)(inv:σ→Prop):Prop where
 nd:∀ s,((Fh s).map (·.1)).Nodup
 nm:∀ s s',(Fh s').map (·.1)=(Fh s).map (·.1)
 step:∀ s x,inv s→inv (nx s x)
 ok:∀ s x q,(Fh s).ok q=true→(Fh (nx s x)).ok q=true
 call:∀ s x k,inv s→(Fh s).ok (fun n=>decide (n<k))=true→aF P g (first++[.agg x.cells]++cap) (Fh s) k aG (bl (p x)) (Fh (nx s x))
 a1:∀ s q,(Fh s).ok q=true→SV.aA q first=true∧SV.aA q cap=true
 cl:∀ s,(Fh s).ok (fun m=>(lk (Fh s) m).isSome)=true
section
variable {σ:Type} {g:Nat} {first cap:List SV} {Fh:σ→Hp} {nx:σ→Dt→σ} {p:Dt→Bool} {aG:Nat} {inv:σ→Prop}
variable (hI:G9 Tryz.prog g first cap Fh nx p aG inv)
include hI
theorem G9.out {bx:Nat}{s:σ}(h:lk (Fh s) bx=none)(s':σ):lk (Fh s') bx=none:=gH (by rw [hI.nm s s'];exact dJ h)
set_option maxHeartbeats 4000000 in
theorem E1 (s:σ)(hs:inv s)(d:Dt)(bx k:Nat)(za:lk (Fh s) bx=none)(hbk:bx<k)(hok:(Fh s).ok (fun n=>decide (n<k))=true):
  SB Tryz.prog final_asker_some_1.f [.agg d.cells,.ptr bx 0] ((bx,.box 67 [.fn (.func g) first cap])::Fh s) k (1+aG) fun r F=>r=bl (!p d)∧F=(bx,.box 67 [.fn (.func g) first cap])::Fh (nx s d):=by
 obtain ⟨o1,o2⟩:=hI.a1 s _ hok;refine final_asker_some_1.enter (by simp [SV.aA,SV.ok,hbk,Dt.an]) (ah (by simpa using hbk) (by simp [Ob.ok,SV.aA,SV.ok,o1,o2]) hok) (by simp) ?_
 dsimp only [final_asker_some_1.s,Co.M,Co.G,Co.J,Co.H,Co.N,Co.F,Co.C,Co.Z,Co.B,Co.b8,Co.ay,Co.bU,Co.i6,Co.z8,Co.cq];have f1:=bZ (show k≠bx by omega)
 have t0:List.lookup k (Fh s)=none:=Hp.out hok (Nat.le_refl _);have t1:lk (Fh s) k=none:=t0;refine SW.seq ?_;refine SW.g0 [0,1,2,3] mixed (And.intro (f1) (t0)) ?_;refine SW.seq ?_;have hc:=hI.call s d (k+1) hs (Hp.a_ (Nat.le_succ _) hok);have hsub:HSub (Fh s) ((k,.box 37 d.cells)::(bx,.box 67 [.fn (.func g) first cap])::Fh s):=gA t1 (gA za fun _ _ h=>h)
 have mN:(((k,Ob.box 37 d.cells)::(bx,Ob.box 67 [.fn (.func g) first cap])::Fh s:Hp).map (·.1)).Nodup:=jd (by rw [aa,if_neg (by omega)];exact t1) (jd za (hI.nd s))
 have hm:bS (bT ((k,Ob.box 37 d.cells)::(bx,Ob.box 67 [.fn (.func g) first cap])::Fh s) (Fh (nx s d)) (Fh s)) (Fh (nx s d))=(k,.box 37 d.cells)::(bx,.box 67 [.fn (.func g) first cap])::Fh (nx s d):=
  jZ (pre:=[(k,.box 37 d.cells),(bx,.box 67 [.fn (.func g) first cap])]) (hI.nm _ _) mN
 refine SW.g1 [0,1,2,3] mixed (And.intro (f1) (hm)) (And.intro hsub hc) ?_;have hok2:=hI.ok s d _ (Hp.a_ (show k≤k+(1+aG) by omega) hok)
 obtain ⟨q1,q2⟩:=hI.a1 s _ (Hp.a_ (show k≤k+(1+aG) by omega) hok)
 refine SW.ret ?_;exact End.mk ((bx,.box 67 [.fn (.func g) first cap])::Fh (nx s d)) (h3:=fun n ob hn=>by
  have hk:n≠k:=fun e=>by
   rw [e,aa,if_neg (by omega),hI.out t1] at hn;cases hn
  rw [aa,if_neg hk];exact hn) (h4:=⟨by cases p d <;> rfl,rfl⟩) (h6:=ah (by simp;omega) (by simp [Ob.ok,SV.aA,SV.ok,q1,q2]) hok2) (h7:=by show k+(1+aG)≤k+1+aG;omega)
theorem Ia {bx:Nat}(s:σ):Hp.ok (fun m=>(lk ((bx,Ob.box 67 [.fn (.func g) first cap])::Fh s) m).isSome) ((bx,.box 67 [.fn (.func g) first cap])::Fh s)=true:=by
 have h2:(Fh s).ok (fun m=>(lk ((bx,Ob.box 67 [.fn (.func g) first cap])::Fh s) m).isSome)=true:=Hp.dN (fun m hm=>by
  rw [aa]
  split
  ·rfl
  ·exact hm) (hI.cl s)
 obtain ⟨b1,b2⟩:=hI.a1 s _ h2;exact ah (by simp [aa]) (by simp only [Ob.ok,SV.aA,SV.ok,b1,b2,Bool.and_true]) h2
theorem BS {bx:Nat}(za:∀ s,lk (Fh s) bx=none):rz Tryz.prog final_asker_some_1.f [] [.ptr bx 0] (fun s=>(bx,.box 67 [.fn (.func g) first cap])::Fh s) (fun s x=>(nx s x,!p x)) (1+aG) (fun _ s=>inv s) (fun _=>True) 1000000000 where
 nd s:=jd (za s) (hI.nd s)
 nm s x:=by rw [List.map_cons,List.map_cons,hI.nm s]
 nx _ s x h _ _:=hI.step s x h
 ok s x q h:=by
  simp only [Hp.ok,List.all_cons,Bool.and_eq_true] at h ⊢;exact ⟨h.1,hI.ok s x q h.2⟩
 call i s x k h _ _ hk:=by
  have hk2:(Fh s).ok (fun n=>decide (n<k))=true:=by
   simp only [Hp.ok,List.all_cons,Bool.and_eq_true] at hk ⊢;exact hk.2
  have hbk:bx<k:=by
   simp only [Hp.ok,List.all_cons,Bool.and_eq_true,decide_eq_true_eq] at hk;exact hk.1.1
  unfold aF;have hqo:=Ia hI (bx:=bx) s;refine (E1 hI s h x bx k (za s) hbk hk2).here _ (fun m hm e=>by rw [e] at hm;cases hm) (by simp [SV.aA,SV.ok,Dt.an,aa]) hqo ?_
  rintro r F ⟨rfl,rfl⟩ _ _;refine ⟨by cases p x <;> rfl,?_⟩
  have e1:(lk ((bx,Ob.box 67 [.fn (.func g) first cap])::Fh s) bx).isSome=true:=by simp [aa]
  have e3:(Fh s).ok (fun m=>(lk ((bx,Ob.box 67 [.fn (.func g) first cap])::Fh s) m).isSome)=true:=by
   unfold Hp.ok at hqo ⊢;rw [List.all_cons,Bool.and_eq_true] at hqo;exact hqo.2
  have e4:=hI.ok s x _ e3;obtain ⟨b1,b2⟩:=hI.a1 _ _ e4;refine Hp.dN (fun m hm=>by rw [hm];rfl) (ah e1 ?_ e4)
  simp only [Ob.ok,SV.aA,SV.ok,b1,b2,Bool.and_true]
 a1 s q h:=by
  simp only [Hp.ok,List.all_cons,Bool.and_eq_true] at h;exact ⟨rfl,by simp [SV.aA,SV.ok,h.1.1]⟩
omit hI in
theorem vo {pre F F' G:Hp}(he:F.map (·.1)=F'.map (·.1))(hn:((pre++F).map (·.1)).Nodup)(hG:∀ n,n∈F.map (·.1)→(lk G n).isSome=true):bS (bT (pre++F) G F) F'=pre++F':=by
 have h1:=jZ (pre:=pre) he hn;rw [iT fun m hm=>by rw [he] at hm;obtain ⟨q,hq⟩:=gR hm;rw [hq];rfl] at h1
 rw [iT hG];exact h1
theorem G_ (s:σ):∀ (l:List Dt),(dZ (fun s x=>(nx s x,!p x)) s l).1=l.filter p:=fun l=>by
 induction l generalizing s with
 | nil=>rfl
 | cons x l ih=>
  simp only [dZ,ih,List.filter_cons];cases p x <;> rfl
set_option maxHeartbeats 4000000 in
theorem AJ (s:σ)(hs:inv s)(a sh x m:Nat)(st:av)(ds:List Dt)(hds:ds.length<1000000000)(k:Nat)(hok:(Fh s).ok (fun n=>decide (n<k))=true)(ha:lk (Fh s) a=some (.box 134 (rM st sh x m)))
    (hD:aF Tryz.prog shape_Shape_Dots.f [.ptr sh 0] (Fh s) (k+1) 2 (.gs (k+2) ds.length) ((k+2,mL ds (k+2))::Fh s)) (hall:∀ s n,k≤n→lk (Fh s) n=none):
    SB Tryz.prog final_asker_some.f [.ptr a 0,.fn (.func g) first cap] (Fh s) k (3+(ds.length*(1+aG)+ds.length*(1+aG+1))) fun r F=>∃ s',inv s'∧r= .gs (k+2) (ds.filter p).length∧F=(k+2,mL (ds.filter p) (k+2))::Fh s':=by
  obtain ⟨o1,o2⟩:=hI.a1 s _ hok;have hak:a<k:=by simpa using (Hp.ej hok ha).1
  refine final_asker_some.enter (by simp [SV.aA,SV.ok,hak,o1,o2]) hok (by simp) ?_
  dsimp only [final_asker_some.s,Co.M,Co.G,Co.J,Co.H,Co.N,Co.F,Co.C,Co.Z,Co.B,Co.b8,Co.ay,Co.bU,Co.i6,Co.z8,Co.cq];have t0:List.lookup k (Fh s)=none:=hall s k (Nat.le_refl _);have f1:=bZ (show a≠k by omega)
  have ha':List.lookup a (Fh s)=some (.box 134 (rM st sh x m)):=ha;have a0:=ER st sh x m;have al:(0+1≤(rM st sh x m).length)=True:=eq_true (by rw [yp];decide)
  refine SW.seq ?_;refine SW.g0 [0,1,3,4] mixed (t0) ?_;have za:∀ s,lk (Fh s) k=none:=fun s=>hall s k (Nat.le_refl _)
  have t1:=za s;have t2:lk (Fh s) (k+2)=none:=hall s _ (by omega)
  have hsub:HSub (Fh s) ((k,.box 67 [.fn (.func g) first cap])::Fh s):=gA t1 fun _ _ h=>h
  have mN:(([(k,Ob.box 67 [.fn (.func g) first cap])]++Fh s:Hp).map (·.1)).Nodup:=jd t1 (hI.nd s)
  have hno:lk ((k,Ob.box 67 [.fn (.func g) first cap])::Fh s) (k+2)=none:=by rw [aa,if_neg (by omega)];exact t2
  have hin:∀ n,n∈(Fh s).map (·.1)→(lk (Fh s) n).isSome=true:=fun n hn=>by obtain ⟨q,hq⟩:=gR hn;rw [hq];rfl
  have hm1:bS (bT ((k,Ob.box 67 [.fn (.func g) first cap])::Fh s) ((k+2,mL ds (k+2))::Fh s) (Fh s)) (Fh s)=(k,.box 67 [.fn (.func g) first cap])::Fh s:=
    vo (pre:=[(k,.box 67 [.fn (.func g) first cap])]) rfl mN fun n hn=>by
      rw [aa]
      split
      · rfl
      · exact hin n hn
  have t2':List.lookup (k+2) (Fh s)=none:=t2;have f2:=bZ (show k+2≠k by omega)
  have ek:k+1+2=k+3:=rfl;have dh:=BS hI za;have hokB:Hp.ok (fun n=>decide (n<k+3)) ((k,Ob.box 67 [.fn (.func g) first cap])::Fh s)=true:=ah (by simp) (by
    have:=hI.a1 s _ (Hp.a_ (show k≤k+3 by omega) hok)
    simp [Ob.ok,SV.aA,SV.ok,this.1,this.2]) (Hp.a_ (show k≤k+3 by omega) hok)
  have cD:=zw dh ds s hds (by omega) (fun _ _=>trivial) hs (k+2) (k+3) (by omega) ⟨rfl,hokB,by rw [aa,if_neg (by omega)];exact t2⟩ (Ia hI s)
  obtain ⟨s',hs'⟩:∃ s',(dZ (fun s x=>(nx s x,!p x)) s ds).2=s':=⟨_,rfl⟩
  have hk1:(dZ (fun s x=>(nx s x,!p x)) s ds).1=ds.filter p:=G_ hI s ds
  have hinv:inv s':=by
    rw [← hs'];have key:∀ (l:List Dt) (s:σ),inv s→inv (dZ (fun s x=>(nx s x,!p x)) s l).2:=fun l=>by
      induction l with
      | nil=>exact fun s h=>h
      | cons x l ih=>exact fun s h=>ih _ (hI.step s x h)
    exact key ds s hs
  rw [hs',hk1] at cD;have hm2:bS (bT ((k+2,mL ds (k+2))::(k,Ob.box 67 [.fn (.func g) first cap])::Fh s) ((k+2,mL (ds.filter p) (k+2))::(k,.box 67 [.fn (.func g) first cap])::Fh s') (Fh s)) (Fh s')=(k+2,mL ds (k+2))::(k,.box 67 [.fn (.func g) first cap])::Fh s':=
    vo (pre:=[(k+2,mL ds (k+2)),(k,Ob.box 67 [.fn (.func g) first cap])]) (hI.nm s' s) (jd hno mN) fun n hn=>by
      rw [aa]
      split
      · rfl
      · rw [aa]
        split
        · rfl
        · rw [← hI.nm s s'] at hn
          obtain ⟨q,hq⟩:=gR hn;rw [hq];rfl
  refine SW.seq ?_
  (have fx:=(And.intro (f1) (And.intro (f2) (And.intro (ha') (And.intro (a0) (And.intro (al) (And.intro (hm1) (And.intro (hm2) (And.intro (t2') (ek)))))))));refine SW.dL [0,1,3,4] mixed ?_;(repeat (first | refine RW.ro fx (h:= ?_) | refine RW.skip (h:= ?_) | refine RW.op fx (h:= ?_) | refine RW.d_ fx (h:= ?_) | refine RW.bJ (h:= ?_) | (refine RW.bu (h:= ?_);(first | refine aj.mk fx (hs:=hsub) (hc:=hD) (h:= ?_) | refine aj.mk fx (hs:=(fun _ _ h=>h)) (hc:=cD) (h:= ?_)))));refine RW.nil ⟨eA (by kernel_rfl),ak.mk (h:= ?_)⟩)
  have hok2:(Fh s').ok (fun n=>decide (n<k+(3+(ds.length*(1+aG)+ds.length*(1+aG+1)))))=true:=by
    have e:=tE dh ds s (q:=fun n=>decide (n<k+(3+(ds.length*(1+aG)+ds.length*(1+aG+1))))) (Hp.a_ (by omega) hokB)
    rw [hs'] at e;unfold Hp.ok at e ⊢;rw [List.all_cons,Bool.and_eq_true] at e;exact e.2
  refine SW.ret ?_;exact End.mk ((k+2,mL (ds.filter p) (k+2))::Fh s') (h3:=fun n ob hn=>by
    rw [aa] at hn ⊢
    split at hn
    · rename_i e;rw [if_pos e];exact hn
    · rename_i e
      rw [if_neg e,aa,if_neg]
      · exact hn
      · intro e2
        rw [e2,za s'] at hn;cases hn) (h4:=⟨s',hinv,rfl,rfl⟩) (h5:=by simp [eE,SV.ok];omega) (h6:=ah (by simp;omega) (SV.aT _) hok2) (h7:=by show k+(3+_)≤k+1+2+_;omega)
end
end
section
attribute [local irreducible] SW RW aF SC aj ak jl wN
abbrev Ll (S:Sh)(X:Ix)(st:av)(K:KM):Hp:=(17,.box 134 (rM st 11 15 16))::(16,.map (ai Dt.cells kv K.m) K.c)::(15,.box 110 [.any,.mp 12,.mp 13,.mp 14])::(12,.map (ai Dt.cells ov X.ops) X.co)::(13,.map (ai Dt.cells dn X.ch) X.cc)::(14,.map (ai Dt.cells dn X.kB) X.cf)::
 [(11,.box 117 [.ptr 3 0,.mp 8,.mp 9,.mp 10]),(8,.map (ai Dt.cells ov S.ops) S.co),(9,.map (ai Dt.cells iv S.fh) S.ca),(10,.map (ai Dt.cells dv S.kP) S.cl),(3,.box 166 [.mp 1,.mp 2]),(1,.map (ai Dt.cells cv S.tr) S.ct),(2,.map (ai Dt.cells ov S.md) S.cm)]
abbrev Na:List Nat:=[17,16,15,12,13,14,11,8,9,10,3,1,2]
theorem He (S:Sh)(X:Ix)(st:av)(K:KM)(q:Nat→Bool)(h:∀ n,n∈Na→q n=true):(Ll S X st K).ok q=true:=by
 refine ah (h 17 (by decide)) (wE _ _ _ _ _ ⟨h 11 (by decide),h 15 (by decide),h 16 (by decide)⟩) (ah (h 16 (by decide)) (mA _ _) (ah (h 15 (by decide)) (by simp [Ob.ok,SV.aA,SV.ok,h 12,h 13,h 14]) (ah (h 12 (by decide)) (aS _ _) (ah (h 13 (by decide)) (dO _ _) (ah (h 14 (by decide)) (dO _ _) ?_)))))
 refine ah (h 11 (by decide)) (by simp [Ob.ok,SV.aA,SV.ok,h 3,h 8,h 9,h 10]) (ah (h 8 (by decide)) (aS _ _) (ah (h 9 (by decide)) (bw _ _) (ah (h 10 (by decide)) (h_ _ _) (ah (h 3 (by decide)) (by simp [Ob.ok,SV.aA,SV.ok,h 1,h 2]) (ah (h 1 (by decide)) (gj _ _) (ah (h 2 (by decide)) (aS _ _) rfl))))))
abbrev yu (S:Sh)(X:Ix)(st:av)(K:KM):Hp:=(18,.box 134 (rM st 12 16 17))::(17,.map (ai Dt.cells kv K.m) K.c)::(16,.box 110 [.any,.mp 13,.mp 14,.mp 15])::(13,.map (ai Dt.cells ov X.ops) X.co)::(14,.map (ai Dt.cells dn X.ch) X.cc)::(15,.map (ai Dt.cells dn X.kB) X.cf)::
 [(12,.box 117 [.ptr 4 0,.mp 9,.mp 10,.mp 11]),(9,.map (ai Dt.cells ov S.ops) S.co),(10,.map (ai Dt.cells iv S.fh) S.ca),(11,.map (ai Dt.cells dv S.kP) S.cl),(4,.box 166 [.mp 2,.mp 3]),(2,.map (ai Dt.cells cv S.tr) S.ct),(3,.map (ai Dt.cells ov S.md) S.cm)]
abbrev J3:List Nat:=[18,17,16,13,14,15,12,9,10,11,4,2,3]
theorem AK (S:Sh)(X:Ix)(st:av)(K:KM)(k:Nat):(fH S X st K).aB (eN J3 k)=yu S X st K:=by
 simp [Hp.aB,Ob.aB,SV.aK,SV.aB,eN,kC,jm,bz,dX,bV,dI,dg]
theorem sr (S:Sh)(X:Ix)(st:av)(K:KM)(q:Nat→Bool)(h:∀ n,n∈J3→q n=true):(yu S X st K).ok q=true:=by
 refine ah (h 18 (by decide)) (wE _ _ _ _ _ ⟨h 12 (by decide),h 16 (by decide),h 17 (by decide)⟩) (ah (h 17 (by decide)) (mA _ _) (ah (h 16 (by decide)) (by simp [Ob.ok,SV.aA,SV.ok,h 13,h 14,h 15]) (ah (h 13 (by decide)) (aS _ _) (ah (h 14 (by decide)) (dO _ _) (ah (h 15 (by decide)) (dO _ _) ?_)))))
 refine ah (h 12 (by decide)) (by simp [Ob.ok,SV.aA,SV.ok,h 4,h 9,h 10,h 11]) (ah (h 9 (by decide)) (aS _ _) (ah (h 10 (by decide)) (bw _ _) (ah (h 11 (by decide)) (h_ _ _) (ah (h 4 (by decide)) (by simp [Ob.ok,SV.aA,SV.ok,h 2,h 3]) (ah (h 2 (by decide)) (gj _ _) (ah (h 3 (by decide)) (aS _ _) rfl))))))
abbrev Mj (S:Sh)(X:Ix)(st:av)(K:KM):Hp:=(19,.box 134 (rM st 13 17 18))::(18,.map (ai Dt.cells kv K.m) K.c)::(17,.box 110 [.any,.mp 14,.mp 15,.mp 16])::(14,.map (ai Dt.cells ov X.ops) X.co)::(15,.map (ai Dt.cells dn X.ch) X.cc)::(16,.map (ai Dt.cells dn X.kB) X.cf)::
 [(13,.box 117 [.ptr 5 0,.mp 10,.mp 11,.mp 12]),(10,.map (ai Dt.cells ov S.ops) S.co),(11,.map (ai Dt.cells iv S.fh) S.ca),(12,.map (ai Dt.cells dv S.kP) S.cl),(5,.box 166 [.mp 3,.mp 4]),(3,.map (ai Dt.cells cv S.tr) S.ct),(4,.map (ai Dt.cells ov S.md) S.cm)]
abbrev MH:List Nat:=[19,18,17,14,15,16,13,10,11,12,5,3,4]
theorem E2 (S:Sh)(X:Ix)(st:av)(K:KM):Hp.aB (· +1) (Ll S X st K)=yu S X st K:=by
 simp only [Hp.aB,List.map_cons,List.map_nil,Ob.aB,SV.aK,SV.aB,kC,jm,dg,bz,dI,bV,dX]
theorem E3 (S:Sh)(X:Ix)(st:av)(K:KM):Hp.aB (· +2) (Ll S X st K)=Mj S X st K:=by
 simp only [Hp.aB,List.map_cons,List.map_nil,Ob.aB,SV.aK,SV.aB,kC,jm,dg,bz,dI,bV,dX]
abbrev mM (l:List ag):Prop:=∀ o,o∈l→o.kind<256∧o.mS∧o.cl.length≤1048576
theorem Nb (st:av):bW (bW (bW (bW [SV.d .jr,.d .jr,.d (.int .u32 0),.d (.int .u32 0),.d (.int .u32 0),.d (.int .u32 0),.d (.int .u32 0),.d (.int .u32 0),.d (.int .u32 0),.d (.int .u32 0),.d .ir] 0 [.ptr 11 0]) 1 [.ptr 15 0]) 2 st.cells) 10 [.mp 16]=rM st 11 15 16:=rfl
theorem Nc (st:av):11≤(bW (bW (bW [SV.d .jr,.d .jr,.d (.int .u32 0),.d (.int .u32 0),.d (.int .u32 0),.d (.int .u32 0),.d (.int .u32 0),.d (.int .u32 0),.d (.int .u32 0),.d (.int .u32 0),.d .ir] 0 [.ptr 11 0]) 1 [.ptr 15 0]) 2 st.cells).length:=Nat.le_refl 11
set_option maxHeartbeats 4000000 in
theorem AL (l:List ag)(hl:l.length≤80)(hd:mM l)(st:av):SB Tryz.prog final_asks.f [ops l,.agg st.cells] [] 0 18 fun r F=>∃ S,∃ h:bI l S,r= .ptr 17 0∧F=Ll S h.X st ⟨[],0⟩:=by
 refine final_asks.enter (by first | rfl | simp [SV.ok,SV.aA]) (by first | rfl | simp [Hp.ok,Ob.ok,SV.ok,SV.aA,av.an]) (by simp) ?_
 dsimp only [final_asks.s,Co.M,Co.G,Co.J,Co.H,Co.N,Co.F,Co.C,Co.Z,Co.B,Co.b8,Co.ay,Co.bU,Co.i6,Co.z8,Co.cq];refine SW.seq ?_;refine SW.g0 [0,1,3,4,5] mixed af ?_;refine SW.seq (SW.tX ?_)
 (repeat (first | refine aW.op af (h:= ?_) | refine aW.d_ af (h:= ?_) | refine aW.skip (h:= ?_)))
 refine aW.bu (Jz l (by omega) (fun o ho=>⟨(hd o ho).1,(hd o ho).2.1⟩)) (HSub.nil _) (h:= ?_)
 rintro _ _ ⟨S,h,rfl,rfl⟩;simp only [bM,bS,bT,e_,eZ,dh,lk,List.lookup,Nat.reduceBEq,BEq.rfl,beq_self_eq_true,if_true,if_false,reduceIte,Nat.reduceEqDiff,Bool.false_eq_true,Option.isSome_some,Option.isSome_none,Nat.reduceAdd]
 (repeat (first | refine aW.op af (h:= ?_) | refine aW.d_ af (h:= ?_) | refine aW.skip (h:= ?_)))
 refine aW.nil ?_;have hN:=h.JA hl (h.short hd);have sA:=Nb st;have sB:=Nc st;have sC:(rM st 11 15 16).all SV.dG=true:=rfl;refine SW.seq ?_;refine SW.g1 [0,1,3,4,5] mixed (And.intro (sA) (sC)) hN ?_;refine SW.ret ?_;exact End.mk (Ll S h.X st ⟨[],0⟩) (h4:=⟨S,h,rfl,rfl⟩) (h6:=He S _ st _ _ (by decide))
theorem E4 (l:List ag)(hl:l.length≤80)(hd:mM l)(st:av):SC Tryz.prog final_asks.f [ops l,.agg st.cells] [] 1 18 fun r F=>∃ S,∃ h:bI l S,r= .ptr 18 0∧F=yu S h.X st ⟨[],0⟩:=by
 have:=SB.at (AL l hl hd st) (· +1) 1 (fun n m h=>absurd h (Nat.not_lt_zero n)) (fun n h=>absurd h (Nat.not_lt_zero n)) (fun i _=>by show 0+i+1=1+i;omega)
 rw [show SV.aK (· +1) [ops l,.agg st.cells]=[ops l,.agg st.cells] by simp [SV.aK,SV.aB,av.ax]] at this
 refine SC.mono (show SC Tryz.prog final_asks.f [ops l,.agg st.cells] [] 1 18 _ from this) ?_;rintro r F ⟨r0,F0,⟨S,h,rfl,rfl⟩,rfl,rfl⟩;exact ⟨S,h,rfl,E2 _ _ _ _⟩
theorem JD (l:List ag)(hl:l.length≤80)(hd:mM l)(st:av):SC Tryz.prog final_asks.f [ops l,.agg st.cells] [] 2 18 fun r F=>∃ S,∃ h:bI l S,r= .ptr 19 0∧F=Mj S h.X st ⟨[],0⟩:=by
 have:=SB.at (AL l hl hd st) (· +2) 2 (fun n m h=>absurd h (Nat.not_lt_zero n)) (fun n h=>absurd h (Nat.not_lt_zero n)) (fun i _=>by show 0+i+2=2+i;omega)
 rw [show SV.aK (· +2) [ops l,.agg st.cells]=[ops l,.agg st.cells] by simp [SV.aK,SV.aB,av.ax]] at this
 refine SC.mono (show SC Tryz.prog final_asks.f [ops l,.agg st.cells] [] 2 18 _ from this) ?_;rintro r F ⟨r0,F0,⟨S,h,rfl,rfl⟩,rfl,rfl⟩;exact ⟨S,h,rfl,E3 _ _ _ _⟩
end
end Go.Proofs.YtaelhkkjgfobhaaGreat
