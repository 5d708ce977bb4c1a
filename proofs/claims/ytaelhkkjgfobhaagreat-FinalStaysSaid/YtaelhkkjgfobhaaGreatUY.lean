/-
 Rows of dots: what a function finds; what it strikes.
-/
import Derived.Test.YtaelhkkjgfobhaaGreatUW
set_option linter.unusedSectionVars false
set_option linter.unusedVariables false
set_option linter.unusedSimpArgs false
namespace Go.Proofs.YtaelhkkjgfobhaaGreat
open Go.Sl Go.Proofs
abbrev mJ (l:List Dt):List SV:=List.map SV.d (l.flatMap Dt.ds)
theorem kQ {l:List Dt}{i:Nat}{x:Dt}(h:l[i]? =some x):(i*2+2<=(List.map SV.d (l.flatMap Dt.ds)).length)=True:=eq_true (by
 rw [List.length_map,mQ,<- Nat.succ_mul];exact Nat.mul_le_mul_right 2 (ez h))
theorem GC {l:List Dt}{i:Nat}(x:Dt)(h:i<l.length):cG (List.map SV.d (l.flatMap Dt.ds)) (i*2) x.cells=List.map SV.d ((l.set i x).flatMap Dt.ds):=BQ Dt.ds 2 (by omega) (λ _=>rfl) l i x h
section
variable {σ:Type}
def eZ (step:σ->Dt->σ×Bool):σ->List Dt->Option Nat×σ
 | s,[]=>(none,s)
 | s,x::l=>if (step s x).2 then (some 0,(step s x).1) else ((eZ step (step s x).1 l).1.map (· +1),(eZ step (step s x).1 l).2)
def dZ (step:σ->Dt->σ×Bool):σ->List Dt->List Dt×σ
 | s,[]=>([],s)
 | s,x::l=>(if (step s x).2 then (dZ step (step s x).1 l).1 else x::(dZ step (step s x).1 l).1,(dZ step (step s x).1 l).2)
theorem Du (step:σ->Dt->σ×Bool):∀ (l:List Dt) (s:σ),(dZ step s l).1.length<=l.length
 | [],s=>Nat.le_refl _
 | x::l,s=>by
  have:=Du step l (step s x).1;simp only [dZ]
  split <;> simp <;> omega
theorem xH {step:σ->Dt->σ×Bool}:∀ {l:List Dt} {s:σ},(eZ step s l).1=none->dZ step s l=(l,(eZ step s l).2)
 | [],s,_=>rfl
 | x ::l,s,h=>by
  simp only [eZ] at h ⊢
  by_cases e:(step s x).2=true
  .rw [if_pos e] at h;cases h
  .rw [if_neg e] at h ⊢
   have h2:(eZ step (step s x).1 l).1=none:=by
    cases hh:(eZ step (step s x).1 l).1 with
    | none=>rfl
    | some i=>rw [hh] at h;cases h
   simp only [dZ];rw [xH h2,if_neg e]
theorem xI {step:σ->Dt->σ×Bool}:∀ {l:List Dt} {s:σ} {i:Nat},(eZ step s l).1=some i->i<l.length/\dZ step s l=(l.take i++(dZ step (eZ step s l).2 (l.drop (i+1))).1,(dZ step (eZ step s l).2 (l.drop (i+1))).2)
 | [],s,i,h=>by cases h
 | x ::l,s,i,h=>by
  simp only [eZ] at h ⊢
  by_cases e:(step s x).2=true
  .rw [if_pos e] at h ⊢
   injection h with h;subst h;simp [dZ,e]
  .rw [if_neg e] at h ⊢
   cases hh:(eZ step (step s x).1 l).1 with
   | none=>rw [hh] at h;cases h
   | some j=>
    rw [hh] at h;injection h with h;dsimp only at h;subst h;obtain ⟨h1,h2⟩:=xI hh;refine ⟨by simp;omega,?_⟩;simp only [dZ];rw [h2,if_neg e];simp
structure s_ (P:Program)(g:Nat)(first cap:List SV)(Fh:σ->Hp)(step:σ->Dt->σ×Bool)(aP:Nat)(I:Nat->σ->Prop)(G:Dt->Prop)(B:Nat):Prop where
 nd:∀ s,((Fh s).map (·.1)).Nodup
 nm:∀ s x,(Fh (step s x).1).map (·.1)=(Fh s).map (·.1)
 nx:∀ i s x,I i s->G x->i<B->I (i+1) (step s x).1
 ok:∀ s x q,(Fh s).ok q=true->(Fh (step s x).1).ok q=true
 call:∀ i s x k,I i s->G x->i<B->(Fh s).ok (λ n=>decide (n<k))=true->aJ P g (first++[.agg x.cells]++cap) (Fh s) k aP (bl (step s x).2) (Fh (step s x).1)
 a1:∀ s q,(Fh s).ok q=true->SV.ay q first=true/\SV.ay q cap=true
end
section
attribute [local irreducible] SW RW aJ SC ai an
variable {σ:Type} {g:Nat} {first cap:List SV} {Fh:σ->Hp} {step:σ->Dt->σ×Bool} {aP:Nat} {I:Nat->σ->Prop} {G:Dt->Prop} {B:Nat}
structure je (Fh:σ->Hp)(n k:Nat)(s0 s:σ):Prop where
 nm:(Fh s).map (·.1)=(Fh s0).map (·.1)
 ok:(Fh s).ok (λ n=>decide (n<k))=true
 no:lk (Fh s) n=none
theorem je.mono {n k k':Nat}{s0 s:σ}(h:je Fh n k s0 s)(hk:k<=k'):je Fh n k' s0 s:=⟨h.nm,Hp.bw hk h.ok,h.no⟩
theorem je.next (hd:s_ Tryz.prog g first cap Fh step aP I G B){n k:Nat}{s0 s:σ}(h:je Fh n k s0 s)(x:Dt):je Fh n k s0 (step s x).1:=
 ⟨(hd.nm s x).trans h.nm,hd.ok s x _ h.ok,iL (by rw [hd.nm s x];exact dS h.no)⟩
theorem je.sQ {n k:Nat}{s0 s:σ}(h:je Fh n k s0 s)(hn:n<k){e sz len:Nat}(ds:List DV):Hp.ok (λ n=>decide (n<k)) ((n,.arr e sz len (ds.map SV.d))::Fh s)=true:=ak (by simpa using hn) (SV.bg _) h.ok
theorem je.nd (hd:s_ Tryz.prog g first cap Fh step aP I G B){n k:Nat}{s0 s:σ}(h:je Fh n k s0 s)(o:Ob):(((n,o)::Fh s:Hp).map (·.1)).Nodup:=jM h.no (hd.nd s)
variable (hd:s_ Tryz.prog g first cap Fh step aP I G B)
include hd in
set_option maxHeartbeats 1000000 in
theorem Dv (l:List Dt)(s0:σ)(hl:l.length<1000000000)(hB:l.length<=B)(hG:∀ x,x∈l->G x)(hI:I 0 s0)(n k:Nat)(hn:n<k)(h0:je Fh n k s0 s0):
  SB Tryz.prog slices_IndexFunc_Lapi_Dot_api_Dot.f [.gs n l.length,.fn (.func g) first cap] ((n,.arr 37 2 l.length (mJ l))::Fh s0) k (l.length*aP)
   (λ r F'=>r=zD (eZ step s0 l).1/\F'=(n,.arr 37 2 l.length (mJ l))::Fh (eZ step s0 l).2):=by
 obtain ⟨o1,o2⟩:=hd.a1 s0 _ h0.ok;refine slices_IndexFunc_Lapi_Dot_api_Dot.enter (by simp [SV.ok,SV.ay,o1,o2,hn]) (h0.sQ hn _) (by simp) ?_;dsimp only [slices_IndexFunc_Lapi_Dot_api_Dot.s,Co.M,Co.J,Co.F,Co.Z,Co.K,Co.L,Co.Y,Co.V,Co.I,Co.S];refine SW.seq (SW.g0 [0,1,4,5,7,8,9,16] Zm af ?_);refine SW.seq (SW.seq (SW.g0 [0,1,4,5,7,8,9,16] Zm af ?_));refine SW.block ?_
 refine SW.loop (α:={x:Nat×σ // x.1<=l.length/\I x.1 x.2/\je Fh n (k+x.1*aP) s0 x.2/\eZ step s0 l=((eZ step x.2 (l.drop x.1)).1.map (· +x.1),(eZ step x.2 (l.drop x.1)).2)})
  (λ x=>⟨[(8,i64 x.1.1),(7,i64 l.length),(0,.gs n l.length),(1,.fn (.func g) first cap)],(n,.arr 37 2 l.length (mJ l))::Fh x.1.2,k+x.1.1*aP⟩) (λ x=>l.length - x.1.1)
  ⟨(0,s0),by omega,hI,by simpa using h0,by simp⟩ id ?_ ?_
 .exact aI.same (by simp) (by simp [aL,List.lookup,SV.aA,SV.bP,SV.ok,o1,o2,hn]) (by simpa using h0.sQ hn _) (aH (h0.nd hd _))
 rintro ⟨⟨i,s⟩,hi,hIs,hh,he⟩;dsimp only at hi hIs hh he ⊢;have hkk:k<=k+i*aP:=by omega
 by_cases h:i<l.length
 .have h1:decide ((i:Int)<l.length)=true:=by simp only [decide_eq_true_eq];omega
  obtain ⟨x,hx⟩:=aZ h;have hdr:l.drop i=x::l.drop (i+1):=by
   rw [List.drop_eq_getElem_cons h];rw [List.getElem?_eq_getElem h] at hx;injection hx with hx;rw [hx]
  have e2:IntKind.i64.wrap ((i:Int)+1)=((i+1:Nat):Int):=wrap_i64 _ (by omega);have hc:=hd.call i s x (k+i*aP) hIs (hG x (List.mem_of_getElem? hx)) (by omega) hh.ok;have hs:HSub (Fh s) ((n,.arr 37 2 l.length (mJ l))::Fh s):=iC hh.no λ _ _ h=>h
  have hm:cg (cq ((n,Ob.arr 37 2 l.length (mJ l))::Fh s) (Fh (step s x).1) (Fh s)) (Fh (step s x).1)=(n,.arr 37 2 l.length (mJ l))::Fh (step s x).1:=
   lC (pre:=[(n,.arr 37 2 l.length (mJ l))]) (hd.nm s x).symm (hh.nd hd _)
  have hh2:=(hh.next hd x).mono (k':=k+i*aP+aP) (by omega);have hk2:k+i*aP+aP=k+(i+1)*aP:=by rw [Nat.succ_mul];omega
  rw [hdr] at he;simp only [eZ] at he;refine SW.seq (SW.g0 [0,1,4,5,7,8,9,16] Zm h1 ?_);refine SW.seq (SW.aj rfl (SW.skip ?_));refine (?_:Sl.SW _ _ _ _ _ _);refine SW.seq (SW.block (SW.seq (SW.g0 [0,1,4,5,7,8,9,16] Zm af ?_)));refine SW.seq ?_;rcases hb:(step s x).2 with _ | _
  .rw [hb] at hc
   refine SW.g1 [0,1,4,5,7,8,9,16] Zm (Zq (iq hx) (Zq (kQ hx) (hm))) (Zq hs hc) ?_;refine SW.au rfl (SW.skip (SW.g0 [0,1,4,5,7,8,9,16] Zm e2 ?_));rw [if_neg (by rw [hb];simp)] at he;have hh3:je Fh n (k+(i+1)*aP) s0 (step s x).1:=by rw [<- hk2];exact hh2
   refine ⟨⟨(i+1,(step s x).1),by dsimp only;omega,hd.nx i s x hIs (hG x (List.mem_of_getElem? hx)) (by omega),hh3,?_⟩,id,by simp;omega,?_⟩
   .rw [he]
    simp only [Option.map_map]
    congr 2
    funext j
    simp only [Function.comp];omega
   .exact aI.same (by simp) (by simp [aL,List.lookup,SV.aA,SV.bP,SV.ok];exact ⟨by omega,(hd.a1 s0 _ (Hp.bw (by omega) h0.ok)).1,(hd.a1 s0 _ (Hp.bw (by omega) h0.ok)).2⟩) (hh3.sQ (by omega) _) (aH (hh3.nd hd _))
  .rw [hb] at hc
   refine SW.g1 [0,1,4,5,7,8,9,16] Zm (Zq (iq hx) (Zq (kQ hx) (hm))) (Zq hs hc) ?_;refine SW.aj rfl (SW.seq ?_);have:k+i*aP+aP<=k+l.length*aP:=by
    have:=Nat.mul_le_mul_right aP (show i+1<=l.length by omega);omega
   refine SW.weak id (st1:=⟨[(5,i64 i)],(n,.arr 37 2 l.length (mJ l))::Fh (step s x).1,k+l.length*aP⟩) (aI.same (by simp) (by simp [aL,List.lookup,SV.aA,SV.ok]) ((hh2.mono this).sQ (by omega) _) (aH (hh2.nd hd _))) ?_;refine SW.g0 [0,1,4,5,7,8,9,16] Zm af ?_;rw [if_pos (by rw [hb])] at he;refine SW.ret ?_;rw [he];exact End.mk ((n,.arr 37 2 l.length (mJ l))::Fh (step s x).1) (h3:=λ _ _ h=>h) (h4:=⟨by simp [fc,zD],rfl⟩) (h6:=(hh2.mono this).sQ (by omega) _)
 .have h1:decide ((i:Int)<l.length)=false:=by simp only [decide_eq_false_iff_not];omega
  have e:i=l.length:=by omega
  subst e;rw [List.drop_length] at he;refine SW.seq (SW.g0 [0,1,4,5,7,8,9,16] Zm h1 ?_);refine SW.seq (SW.au rfl (SW.exit ?_));refine (?_:Sl.SW _ _ _ _ _ _);refine SW.seq (SW.g0 [0,1,4,5,7,8,9,16] Zm af ?_);refine SW.ret ?_;rw [he];exact End.mk ((n,.arr 37 2 l.length (mJ l))::Fh s) (h3:=λ _ _ h=>h) (h4:=⟨rfl,rfl⟩) (h6:=(hh.mono (by omega)).sQ (by omega) _)
include hd in
theorem yL {q:Nat->Bool}:∀ (l:List Dt) (s:σ),(Fh s).ok q=true->(Fh (eZ step s l).2).ok q=true
 | [],s,h=>h
 | x::l,s,h=>by
  simp only [eZ]
  split
  .exact hd.ok s x q h
  .exact yL l _ (hd.ok s x q h)
include hd in
theorem vD {q:Nat->Bool}:∀ (l:List Dt) (s:σ),(Fh s).ok q=true->(Fh (dZ step s l).2).ok q=true
 | [],s,h=>h
 | x::l,s,h=>vD l _ (hd.ok s x q h)
include hd in
theorem ur:∀ (l:List Dt) (s:σ),(Fh (eZ step s l).2).map (·.1)=(Fh s).map (·.1)
 | [],s=>rfl
 | x::l,s=>by
  simp only [eZ]
  split
  .exact hd.nm s x
  .exact (ur l _).trans (hd.nm s x)
include hd in
theorem GD:∀ (l:List Dt) (s:σ) (i:Nat),(∀ x,x∈l->G x)->i+l.length<=B->I i s->∀ j,(eZ step s l).1=some j->I (i+j+1) (eZ step s l).2
 | [],s,i,_,_,_,j,h=>by cases h
 | x ::l,s,i,hG,hB,hi,j,h=>by
  simp only [List.length_cons] at hB;simp only [eZ] at h ⊢
  by_cases e:(step s x).2=true
  .rw [if_pos e] at h ⊢
   injection h with h;subst h;exact hd.nx i s x hi (hG x (by simp)) (by omega)
  .rw [if_neg e] at h ⊢
   cases hh:(eZ step (step s x).1 l).1 with
   | none=>rw [hh] at h;cases h
   | some q=>
    rw [hh] at h;injection h with h;dsimp only at h;subst h;have:=GD l (step s x).1 (i+1) (λ y hy=>hG y (List.mem_cons_of_mem _ hy)) (by omega) (hd.nx i s x hi (hG x (by simp)) (by omega)) q hh
    rwa [show i+(q+1)+1=i+1+q+1 by omega]
include hd in
theorem Dw (l:List Dt)(s0:σ)(hl:l.length<1000000000)(hB:l.length<=B)(hG:∀ x,x∈l->G x)(hI:I 0 s0)(n k:Nat)(hn:n<k)(h0:je Fh n k s0 s0)(mO:(Fh s0).ok (λ m=>(lk (Fh s0) m).isSome)=true):
  aJ Tryz.prog slices_IndexFunc_Lapi_Dot_api_Dot.f [.gs n l.length,.fn (.func g) first cap] ((n,.arr 37 2 l.length (mJ l))::Fh s0) k (l.length*aP) (zD (eZ step s0 l).1) ((n,.arr 37 2 l.length (mJ l))::Fh (eZ step s0 l).2):=by
 unfold aJ;have hq:=yu (n:=n) (o:= .arr 37 2 l.length (mJ l)) (λ q=>SV.bg _) mO h0.no;have hq0:(Fh s0).ok (λ m=>(lk ((n,Ob.arr 37 2 l.length (mJ l))::Fh s0) m).isSome)=true:=by
  simp only [Hp.ok,List.all_cons,Bool.and_eq_true] at hq ⊢;exact hq.2
 obtain ⟨o1,o2⟩:=hd.a1 s0 _ hq0;refine (Dv hd l s0 hl hB hG hI n k hn h0).here (λ m=>(lk ((n,Ob.arr 37 2 l.length (mJ l))::Fh s0) m).isSome) (λ m h e=>by rw [e] at h;cases h) (by simp only [SV.ay,SV.ok,o1,o2,Bool.and_true];simp [aa]) hq ?_;rintro x F ⟨rfl,rfl⟩ _ _;refine ⟨by unfold zD;split <;> rfl,?_⟩;have:=yL hd l s0 hq0;exact ak (by simp [aa]) (SV.bg _) (Hp.dH (λ m hm=>by rw [hm];rfl) this)
end
theorem Dx (cur:List Dt)(w m:Nat)(z:List SV)(hz:z.length=2)(hw:w+m=cur.length):(cG (mJ cur) (w*2) ((List.replicate m z).flatten)).take (w*2)=mJ (cur.take w):=by
 have hl:((List.replicate m z).flatten).length=m*2:=by simp [hz]
 have hc:(mJ cur).length=cur.length*2:=by rw [List.length_map,mQ]
 rw [qv (by rw [hl,hc,<- hw,Nat.add_mul];exact Nat.le_refl _),List.append_assoc,List.take_append_of_le_length (by rw [List.length_take,hc,<- hw,Nat.add_mul];omega),List.take_of_length_le (by rw [List.length_take];omega)];show ((cur.flatMap Dt.ds).map SV.d).take (w*2)=_;rw [<- List.map_take]
 congr 1
 conv=>lhs;rw [<- List.take_append_drop w cur]
 rw [List.flatMap_append,List.take_append_of_le_length,List.take_of_length_le]
 .rw [mQ,List.length_take];exact Nat.mul_le_mul_right 2 (Nat.min_le_left _ _)
 .rw [mQ,List.length_take,Nat.min_eq_left (by omega)];exact Nat.le_refl _
section
attribute [local irreducible] SW RW aJ SC ai an
variable {σ:Type} {g:Nat} {first cap:List SV} {Fh:σ->Hp} {step:σ->Dt->σ×Bool} {aP:Nat} {I:Nat->σ->Prop} {G:Dt->Prop} {B:Nat}
variable (hd:s_ Tryz.prog g first cap Fh step aP I G B)
include hd in
set_option maxHeartbeats 4000000 in
theorem Bk (l : List Dt)(s0:σ)(hl:l.length<1000000000)(hB:l.length<=B)(hG:∀ x,x∈l->G x)(hI:I 0 s0)(n k:Nat)(hn:n<k)(h0:je Fh n k s0 s0)(mO:(Fh s0).ok (λ m=>(lk (Fh s0) m).isSome)=true):
    SB Tryz.prog slices_DeleteFunc_Lapi_Dot_api_Dot.f [.gs n l.length,.fn (.func g) first cap] ((n,.arr 37 2 l.length (mJ l))::Fh s0) k (l.length*aP+l.length*(aP+1))
      (λ r F'=>r= .gs n (dZ step s0 l).1.length/\F'=(n,.arr 37 2 (dZ step s0 l).1.length (mJ (dZ step s0 l).1))::Fh (dZ step s0 l).2):=by
  obtain ⟨o1,o2⟩:=hd.a1 s0 _ h0.ok;have ok1:∀ kx,k<=kx->SV.ay (λ n=>decide (n<kx)) first=true/\SV.ay (λ n=>decide (n<kx)) cap=true:=λ kx hx=>hd.a1 s0 _ (Hp.bw hx h0.ok)
  refine slices_DeleteFunc_Lapi_Dot_api_Dot.enter (by simp [SV.ok,SV.ay,o1,o2,hn]) (h0.sQ hn _) (by simp) ?_;dsimp only [slices_DeleteFunc_Lapi_Dot_api_Dot.s,Co.M,Co.J,Co.N,Co.F,Co.b8,Co.aB,Co.K,Co.L,Co.Q,Co.W,Co.Y,Co.V,Co.O,Co.I,Co.S];have hx:=Dw hd l s0 hl hB hG hI n k hn h0 mO;have hm0:cg (cq ((n,Ob.arr 37 2 l.length (mJ l))::Fh s0) ((n,Ob.arr 37 2 l.length (mJ l))::Fh (eZ step s0 l).2) (Fh s0)) (Fh (eZ step s0 l).2)=(n,Ob.arr 37 2 l.length (mJ l))::Fh (eZ step s0 l).2:=
    sP (ur hd l s0).symm (h0.nd hd _)
  have h1s:je Fh n k s0 (eZ step s0 l).2:=⟨ur hd l s0,yL hd l s0 h0.ok,iL (by rw [ur hd l s0];exact dS h0.no)⟩;refine SW.seq (SW.g0 [0,1,4,5,6,7,12,19,29] Zm af ?_);refine SW.seq ?_;rcases hi:(eZ step s0 l).1 with _ | i
  . have hk:=xH hi
    rw [hi] at hx;have hx:aJ Tryz.prog slices_IndexFunc_Lapi_Dot_api_Dot.f [.gs n l.length,.fn (.func g) first cap] ((n,.arr 37 2 l.length (mJ l))::Fh s0) k (l.length*aP) (.d (.int .i64 (-1))) ((n,.arr 37 2 l.length (mJ l))::Fh (eZ step s0 l).2):=hx
    (refine SW.dL [0,1,4,5,6,7,12,19,29] Zm ?_;(repeat (first | refine RW.ro hm0 (h:= ?_) | refine RW.skip (h:= ?_) | refine RW.op hm0 (h:= ?_) | refine RW.dQ hm0 (h:= ?_) | refine RW.bF (h:= ?_) | (refine RW.bC (h:= ?_);(first | refine ai.mk (hm0) (hs:=(λ _ _ h=>h)) (hc:=hx) (h:= ?_)))));refine RW.nil ⟨by kernel_rfl,an.mk (h:= ?_)⟩)
    refine SW.seq (SW.seq (SW.g0 [0,1,4,5,6,7,12,19,29] Zm af ?_));refine SW.aj rfl (SW.seq (SW.weak id (st1:=⟨[(0,.gs n l.length)],(n,.arr 37 2 l.length (mJ l))::Fh (eZ step s0 l).2,k+(l.length*aP+l.length*(aP+1))⟩) (aI.same (by simp) (by simp [aL,List.lookup,SV.aA,SV.ok];omega) ((h1s.mono (by show k<=k+(l.length*aP+l.length*(aP+1));omega)).sQ (by show n<k+(l.length*aP+l.length*(aP+1));omega) _) (aH (h1s.nd hd _))) ?_));refine SW.g0 [0,1,4,5,6,7,12,19,29] Zm af ?_;refine SW.ret ?_;rw [hk];exact End.mk ((n,.arr 37 2 l.length (mJ l))::Fh (eZ step s0 l).2) (h3:=λ _ _ h=>h) (h4:=⟨rfl,rfl⟩) (h5:=by simp [fc,SV.ok];omega) (h6:=(h1s.mono (by omega)).sQ (by omega) _)
  . obtain ⟨hil,hk⟩:=xI hi
    have hI1:=GD hd l s0 0 hG (by omega) hI i hi;rw [hi] at hx;have hx:aJ Tryz.prog slices_IndexFunc_Lapi_Dot_api_Dot.f [.gs n l.length,.fn (.func g) first cap] ((n,.arr 37 2 l.length (mJ l))::Fh s0) k (l.length*aP) (i64 i) ((n,.arr 37 2 l.length (mJ l))::Fh (eZ step s0 l).2):=hx;obtain ⟨s1,hs1⟩:∃ s1,(eZ step s0 l).2=s1:=⟨_,rfl⟩;rw [hs1] at hx hm0 h1s hk hI1
    (refine SW.dL [0,1,4,5,6,7,12,19,29] Zm ?_;(repeat (first | refine RW.ro hm0 (h:= ?_) | refine RW.skip (h:= ?_) | refine RW.op hm0 (h:= ?_) | refine RW.dQ hm0 (h:= ?_) | refine RW.bF (h:= ?_) | (refine RW.bC (h:= ?_);(first | refine ai.mk (hm0) (hs:=(λ _ _ h=>h)) (hc:=hx) (h:= ?_)))));refine RW.nil ⟨by kernel_rfl,an.mk (h:= ?_)⟩)
    have hne:((i:Int) == -1)=false:=by rw [beq_eq_false_iff_ne];omega
    refine SW.seq (SW.seq (SW.g0 [0,1,4,5,6,7,12,19,29] Zm hne ?_));refine SW.au rfl (SW.skip ?_);refine (?_:Sl.SW _ _ _ _ _ _);have e1:IntKind.i64.wrap ((i:Int)+1)=((i+1:Nat):Int):=wrap_i64 _ (by omega);refine SW.seq (SW.seq (SW.g0 [0,1,4,5,6,7,12,19,29] Zm e1 ?_));refine SW.block ?_
    let K0:=k+l.length*aP
    let Inv:Nat->Nat->List Dt->σ->Prop:=λ j w cur s=>(j<=l.length/\w<j/\cur.length=l.length)/\cur.drop j=l.drop j/\I j s/\je Fh n (K0+j*(aP+1)) s0 s/\dZ step s0 l=(cur.take w++(dZ step s (l.drop j)).1,(dZ step s (l.drop j)).2)
    refine SW.loop (α:={x:Nat×Nat×List Dt×σ // Inv x.1 x.2.1 x.2.2.1 x.2.2.2})
      (λ x=>⟨[(6,i64 x.1.1),(5,i64 x.1.2.1),(0,.gs n l.length),(1,.fn (.func g) first cap)],(n,.arr 37 2 l.length (mJ x.1.2.2.1))::Fh x.1.2.2.2,K0+x.1.1*(aP+1)⟩) (λ x=>l.length - x.1.1)
      ⟨(i+1,i,l,s1),⟨by show i+1<=l.length;omega,by show i<i+1;omega,rfl⟩,rfl,by rw [Nat.zero_add] at hI1;exact hI1,h1s.mono (by show k<=k+l.length*aP+_;omega),hk⟩ id ?_ ?_
    . refine aI.same (by show k<=k+l.length*aP+_;omega) (by simp [aL,List.lookup,SV.aA,SV.bP,SV.ok];exact ⟨by show n<k+l.length*aP+_;omega,ok1 _ (by show k<=k+l.length*aP+_;omega)⟩) ((h1s.mono (by show k<=k+l.length*aP+_;omega)).sQ (by show n<k+l.length*aP+_;omega) _) (aH (h1s.nd hd _))
    rintro ⟨⟨j,w,cur,s⟩,⟨hj,hwj,hcl2⟩,hdr,hIs,hh,he⟩;dsimp only at hj hwj hcl2 hdr hIs hh he ⊢;have hKk:k<=K0+j*(aP+1):=by show k<=k+l.length*aP+_;omega
    obtain ⟨K,hK⟩:∃ K,K0+j*(aP+1)=K:=⟨_,rfl⟩;have hK1:K0+(j+1)*(aP+1)=K+1+aP:=by rw [<- hK,Nat.succ_mul];omega
    rw [hK] at hh hKk ⊢
    by_cases h:j<l.length
    . have h1 : decide ((j:Int)<l.length)=true:=by simp only [decide_eq_true_eq];omega
      obtain ⟨x,hxl⟩:=aZ h;have hxc:cur[j]? =some x:=zH hdr hxl;have e2:IntKind.i64.wrap ((j:Int)+1)=((j+1:Nat):Int):=wrap_i64 _ (by omega);have e3:IntKind.i64.wrap ((w:Int)+1)=((w+1:Nat):Int):=wrap_i64 _ (by omega);have hGx:=hG x (List.mem_of_getElem? hxl);rw [drop_cons hxl] at he;simp only [dZ] at he;have hfr:lk (Fh s) K=none:=Hp.out hh.ok (Nat.le_refl _);have hfr':List.lookup K (Fh s)=none:=hfr;have f1:=b_ (show K≠n by omega);have hh1:=hh.mono (k':=K+1) (by omega);have hc:=hd.call j s x (K+1) hIs hGx (by omega) hh1.ok;have hs:HSub (Fh s) ((K,.box 37 x.cells)::(n,.arr 37 2 l.length (mJ cur))::Fh s):=iC hfr (iC hh.no λ _ _ h=>h);have ny:(((K,Ob.box 37 x.cells)::(n,Ob.arr 37 2 l.length (mJ cur))::Fh s:Hp).map (·.1)).Nodup:=jM (by rw [aa,if_neg (by omega)];exact hfr) (hh.nd hd _);have hm:cg (cq ((K,Ob.box 37 x.cells)::(n,Ob.arr 37 2 l.length (mJ cur))::Fh s) (Fh (step s x).1) (Fh s)) (Fh (step s x).1)=(K,Ob.box 37 x.cells)::(n,.arr 37 2 l.length (mJ cur))::Fh (step s x).1:=
        lC (pre:=[(K,.box 37 x.cells),(n,.arr 37 2 l.length (mJ cur))]) (hd.nm s x).symm ny
      have hh2:je Fh n (K0+(j+1)*(aP+1)) s0 (step s x).1:=by rw [hK1];exact (hh.next hd x).mono (by omega)
      have hfr2:List.lookup K (Fh (step s x).1)=none:=iL (by rw [hd.nm s x];exact dS hfr);have hdr2:=xw hdr;refine SW.seq (SW.seq (SW.g0 [0,1,4,5,6,7,12,19,29] Zm h1 ?_));refine SW.aj rfl (SW.skip ?_);refine (?_:Sl.SW _ _ _ _ _ _);refine SW.seq (SW.block (SW.seq (SW.g0 [0,1,4,5,6,7,12,19,29] Zm (Zq (iq hxc) (Zq (kQ hxc) (Zq hfr' f1))) ?_)));refine SW.seq ?_;rcases hb:(step s x).2 with _ | _
      . rw [hb] at hc
        refine SW.g1 [0,1,4,5,6,7,12,19,29] Zm hm (Zq hs hc) ?_;refine SW.aj rfl (SW.seq ?_);have hs1:cG (List.map SV.d (cur.flatMap Dt.ds)) (w*2) x.cells=List.map SV.d ((cur.set w x).flatMap Dt.ds):=GC x (by omega);have hs2:(w*2+2<=(List.map SV.d (cur.flatMap Dt.ds)).length)=True:=eq_true (by rw [List.length_map,mQ,hcl2];omega);refine SW.g0 [0,1,4,5,6,7,12,19,29] Zm (Zq hs1 (Zq hs2 f1)) ?_;refine SW.g0 [0,1,4,5,6,7,12,19,29] Zm e3 ?_;refine SW.g0 [0,1,4,5,6,7,12,19,29] Zm e2 ?_;rw [if_neg (by rw [hb];simp)] at he;refine ⟨⟨(j+1,w+1,cur.set w x,(step s x).1),⟨by show j+1<=l.length;omega,by show w+1<j+1;omega,by simp [hcl2]⟩,by rw [set_drop (by omega)];exact hdr2,hd.nx j s x hIs hGx (by omega),hh2,?_⟩,id,by simp;omega,?_⟩
        . rw [he,zG (by omega)];simp
        . exact aI.same (by show k<=k+l.length*aP+_;omega) (by simp [aL,List.lookup,SV.aA,SV.bP,SV.ok];exact ⟨by show n<k+l.length*aP+_;omega,ok1 _ (by show k<=k+l.length*aP+_;omega)⟩) (hh2.sQ (by show n<k+l.length*aP+_;omega) _) (λ y hy=>by
            rw [aa,if_neg ?_]
            . exact aH (hh2.nd hd _) y hy
            . intro e
              rcases List.mem_cons.1 hy with rfl | hy
              . dsimp only at e;omega
              . have:=mY (aH (hd.nd _) y hy)
                rw [e] at this;exact dS hfr2 this)
      . rw [hb] at hc
        refine SW.g1 [0,1,4,5,6,7,12,19,29] Zm hm (Zq hs hc) ?_;refine SW.au rfl (SW.skip ?_);refine SW.g0 [0,1,4,5,6,7,12,19,29] Zm e2 ?_;rw [if_pos (by rw [hb])] at he;refine ⟨⟨(j+1,w,cur,(step s x).1),⟨by show j+1<=l.length;omega,by show w<j+1;omega,hcl2⟩,hdr2,hd.nx j s x hIs hGx (by omega),hh2,he⟩,id,by simp;omega,?_⟩;exact aI.same (by show k<=k+l.length*aP+_;omega) (by simp [aL,List.lookup,SV.aA,SV.bP,SV.ok];exact ⟨by show n<k+l.length*aP+_;omega,ok1 _ (by show k<=k+l.length*aP+_;omega)⟩) (hh2.sQ (by show n<k+l.length*aP+_;omega) _) (λ y hy=>by
            rw [aa,if_neg ?_]
            . exact aH (hh2.nd hd _) y hy
            . intro e
              rcases List.mem_cons.1 hy with rfl | hy
              . dsimp only at e;omega
              . have:=mY (aH (hd.nd _) y hy)
                rw [e] at this;exact dS hfr2 this)
    . have h1:decide ((j:Int)<l.length)=false:=by simp only [decide_eq_false_iff_not];omega
      have e:j=l.length:=by omega
      rw [e,List.drop_length] at he;simp only [dZ,List.append_nil] at he;have hKe:K=k+(l.length*aP+l.length*(aP+1)):=by rw [<- hK,e];show k+l.length*aP+_=_;omega
      rw [e] at h1;refine SW.seq (SW.seq ?_);rw [e];refine SW.g0 [0,1,4,5,6,7,12,19,29] Zm h1 ?_;refine SW.au rfl (SW.exit ?_);refine (?_:Sl.SW _ _ _ _ _ _);have e4:(w*2+(l.length - w)*2<=(List.map SV.d (cur.flatMap Dt.ds)).length)=True:=eq_true (by
        rw [List.length_map,mQ,hcl2,<- Nat.add_mul];exact Nat.mul_le_mul_right 2 (by omega))
      refine SW.seq (SW.g0 [0,1,4,5,6,7,12,19,29] Zm e4 ?_);have hz:((Dt.mk 0 0).cells).length=2:=rfl;have hct:=Dx cur w (l.length - w) (Dt.mk 0 0).cells hz (by omega);obtain ⟨Z,hZ⟩:∃ Z,cG (mJ cur) (w*2) (List.replicate (l.length - w) (Dt.mk 0 0).cells).flatten=Z:=⟨_,rfl⟩;rw [hZ] at hct;rw [hZ];refine SW.seq (SW.g0 [0,1,4,5,6,7,12,19,29] Zm af ?_);refine SW.trim (n:=n) (e:=37) (sz:=2) (len:=l.length) (cs:=Z) w (by simp [aa]) (by omega) ?_;dsimp only;rw [iS,hct,hKe];rw [hKe] at hh;refine SW.ret ?_;rw [he];have hlw:(cur.take w).length=w:=by rw [List.length_take];omega
      exact End.mk ((n,.arr 37 2 w (mJ (cur.take w)))::Fh s) (h3:=λ _ _ h=>h) (h4:=⟨by simp [fc,hlw],by simp [hlw]⟩) (h5:=by simp [fc,SV.ok];omega) (h6:=hh.sQ (by omega) _)
include hd in
theorem vE (l:List Dt)(s0:σ)(hl:l.length<1000000000)(hB:l.length<=B)(hG:∀ x,x∈l->G x)(hI:I 0 s0)(n k:Nat)(hn:n<k)(h0:je Fh n k s0 s0)(mO:(Fh s0).ok (λ m=>(lk (Fh s0) m).isSome)=true):
  aJ Tryz.prog slices_DeleteFunc_Lapi_Dot_api_Dot.f [.gs n l.length,.fn (.func g) first cap] ((n,.arr 37 2 l.length (mJ l))::Fh s0) k (l.length*aP+l.length*(aP+1)) (.gs n (dZ step s0 l).1.length)
   ((n,.arr 37 2 (dZ step s0 l).1.length (mJ (dZ step s0 l).1))::Fh (dZ step s0 l).2):=by
 unfold aJ;have hq:=yu (n:=n) (o:= .arr 37 2 l.length (mJ l)) (λ q=>SV.bg _) mO h0.no;have hq0:(Fh s0).ok (λ m=>(lk ((n,Ob.arr 37 2 l.length (mJ l))::Fh s0) m).isSome)=true:=by
  simp only [Hp.ok,List.all_cons,Bool.and_eq_true] at hq ⊢;exact hq.2
 obtain ⟨o1,o2⟩:=hd.a1 s0 _ hq0;refine (Bk hd l s0 hl hB hG hI n k hn h0 mO).here (λ m=>(lk ((n,Ob.arr 37 2 l.length (mJ l))::Fh s0) m).isSome) (λ m h e=>by rw [e] at h;cases h) (by simp only [SV.ay,SV.ok,o1,o2,Bool.and_true];simp [aa]) hq ?_;rintro x F ⟨rfl,rfl⟩ _ _;refine ⟨by simp [SV.ok,aa],?_⟩;have:=vD hd l s0 hq0;exact ak (by simp [aa]) (SV.bg _) (Hp.dH (λ m hm=>by rw [hm];rfl) this)
end
end Go.Proofs.YtaelhkkjgfobhaaGreat
namespace Go.Proofs.YtaelhkkjgfobhaaGreat
open Go.Sl Go.Proofs Go.Sort
attribute [local irreducible] SW RW aJ SC ai an
abbrev l9 (L:List Dt)(n:Nat):Ob:= .arr 37 2 L.length ((L.flatMap Dt.ds).map .d)
theorem Af {L:(MM Dt ag)}{c:Nat}(hwf:MM.wf L c)(hL:L.length<1000000000):
  SB Tryz.prog slices_SortedFunc_api_Dot.f [.fn (.func maps_Keys_map_api_Dot_api_Op_api_Dot_api_Op_1.f) [] [.ptr 0 0],.fn (.func dot_Compare.f) [] []] (dP 0 1 L c) 2 1
   λ r F=>r= .gs 2 (Dt.sorted (MM.keys L)).length/\F=(2,l9 (Dt.sorted (MM.keys L)) 2)::dP 0 1 L c:=by
 refine slices_SortedFunc_api_Dot.enter (by simp [SV.ok,SV.ay]) (ni _ _ _ _ _ rfl rfl) (by simp) ?_;dsimp only [slices_SortedFunc_api_Dot.s,Co.M,Co.J,Co.F,Co.P,Co.Q,Co.S];refine SW.seq (SW.g0 [0,1,4,5] Zm af ?_);refine SW.seq (SW.tP ?_);(repeat (first | refine aV.op af (h:= ?_) | refine aV.dQ af (h:= ?_) | refine aV.skip (h:= ?_)));refine aV.bC (tF hwf hL) (λ _ _ h=>h) (h:= ?_);rintro v F' ⟨rfl,l,hl,rfl⟩;simp only [bR,cg,cq,gh,gf,cE,lk,List.lookup,Nat.reduceBEq,BEq.rfl,beq_self_eq_true,if_true,if_false,reduceIte,Nat.reduceEqDiff,Bool.false_eq_true,Option.isSome_some,Option.isSome_none,Nat.reduceAdd,dP];(repeat (first | refine aV.op af (h:= ?_) | refine aV.dQ af (h:= ?_) | refine aV.skip (h:= ?_)));refine aV.nil ?_;have hlen:l.length=L.length:=by rw [hl.length_eq];simp [MM.keys]
 refine SW.seq (SW.tP ?_);(repeat (first | refine aV.op af (h:= ?_) | refine aV.dQ af (h:= ?_) | refine aV.skip (h:= ?_)));rw [<- hlen];refine aV.oo af (l6 2 l (by omega) 3) (h:= ?_);refine aV.nil ?_;refine SW.seq (SW.g0 [0,1,4,5] Zm af ?_);have gD:(Dt.sorted l).length=l.length:=(Dt.sorted_perm l).length_eq;have hse:Dt.sorted l=Dt.sorted (MM.keys L):=Dt.iE ((Dt.sorted_perm l).trans hl) (Dt.eP l);rw [<- hse,<- gD];refine SW.ret ?_;exact End.mk ((2,l9 (Dt.sorted l) 2)::dP 0 1 L c) (h4:=⟨rfl,rfl⟩) (h6:=by simp [dP,Hp.ok,Ob.ok,SV.ay,SV.ok,SV.bg,a_])
theorem Ag {L:(MM Dt ag)}{c:Nat}(hwf:MM.wf L c)(hL:L.length<1000000000)(k:Nat)(b m:Nat)(IJ:b≠m):
  aJ Tryz.prog slices_SortedFunc_api_Dot.f [.fn (.func maps_Keys_map_api_Dot_api_Op_api_Dot_api_Op_1.f) [] [.ptr b 0],.fn (.func dot_Compare.f) [] []] (dP b m L c) k 1 (.gs k (Dt.sorted (MM.keys L)).length) ((k,l9 (Dt.sorted (MM.keys L)) k)::dP b m L c):=by
 have h:=SB.nM [b,m] (Af hwf hL) (by simp [IJ]) (λ i hi=>pZ L c i (by simpa using hi)) k
 simpa [SV.aQ,SV.aA,ff,dP,Hp.aA,Ob.aA,bA,SV.eE] using h
set_option maxHeartbeats 4000000 in
theorem Dy (S:Sh)(hwf:MM.wf S.ops S.co)(hL:S.ops.length<1000000000):SB Tryz.prog shape_Shape_Dots.f [.ptr 0 0] S.h0 7 2 λ r F=>r= .gs 8 (Dt.sorted (MM.keys S.ops)).length/\F=(8,l9 (Dt.sorted (MM.keys S.ops)) 8)::S.h0:=by
 refine shape_Shape_Dots.enter (by simp [SV.ay,SV.ok]) (S.ok (Nat.le_refl 7)) (by simp) ?_;dsimp only [shape_Shape_Dots.s,Co.M,Co.J,Co.F,Co.C,Co.T,Co.P,Co.D,Co.A,Co.S];refine SW.seq (SW.g0 [0,2,4] Zm af ?_);refine SW.seq (SW.seq (SW.g1 [0,2,4] Zm af (rE S) ?_));refine SW.au rfl (SW.skip (SW.seq ?_));have cS:aJ Tryz.prog slices_SortedFunc_api_Dot.f [.fn (.func maps_Keys_map_api_Dot_api_Op_api_Dot_api_Op_1.f) [] [.ptr 7 0],.fn (.func dot_Compare.f) [] []] [(7,.box 107 [.mp 1]),(1,.map (ah Dt.cells ov S.ops) S.co)] 8 1 (.gs 8 (Dt.sorted (MM.keys S.ops)).length) [(8,l9 (Dt.sorted (MM.keys S.ops)) 8),(7,.box 107 [.mp 1]),(1,.map (ah Dt.cells ov S.ops) S.co)]:=Ag hwf hL 8 7 1 (by decide);have cK:=zY S.ops S.co 1;refine SW.g2 [0,2,4] Zm af cK cS ?_;refine SW.ret ?_;exact End.mk ((8,l9 (Dt.sorted (MM.keys S.ops)) 8)::S.h0) (h4:=⟨rfl,rfl⟩) (h6:=ak (by decide) (SV.bg _) (S.ok (by decide)))
end Go.Proofs.YtaelhkkjgfobhaaGreat
namespace Go.Proofs.YtaelhkkjgfobhaaGreat
open Go.Sl Go.Proofs
section
def kv (n:Nat):SV:= .d (.int .u8 n)
theorem uu (L:MM Dt Nat)(a:Dt):fP (ah Dt.cells kv L) (.d (.int .u8 0)) (MM.idx L a)= .d (.int .u8 (((MM.get L a).getD 0:Nat):Int)):=iR (vs:=kv) 0 L a
theorem rR (L:MM Dt Nat)(c:Nat)(a:Dt)(n:Nat):iZ (ah Dt.cells kv L) c (.agg a.cells) (.d (.int .u8 (n:Int))) (MM.idx L a)= .map (ah Dt.cells kv (MM.put L c a n)) (MM.jh L c a):=jC (vs:=kv) L c a n
theorem iF (ρ:Nat->Nat)(L:MM Dt Nat):(ah Dt.cells kv L).map (λ e=>(e.1,e.2.1.aA ρ,e.2.2.aA ρ))=ah Dt.cells kv L:=lB ρ L (λ a=>Dt.ax a ρ) (λ _=>rfl)
theorem fC (q:Nat->Bool)(L:MM Dt Nat):((ah Dt.cells kv L).all λ e=>e.2.1.ok q && e.2.2.ok q)=true:=nN q L (λ a=>Dt.aq a q) (λ _=>rfl)
structure KM where
 m:MM Dt Nat
 c:Nat
def KM.put (K:KM)(d:Dt)(n:Nat):KM:=⟨MM.put K.m K.c d n,MM.jh K.m K.c d⟩
def KM.get (K:KM)(d:Dt):Nat:=(MM.get K.m d).getD 0
theorem KM.bT (K:KM)(d e:Dt)(n:Nat):(K.put d n).get e=if e=d then n else K.get e:=by
 unfold KM.put KM.get;rw [MM.bT]
 split <;> rfl
section
variable (rS:Dt->Bool) (dh:Dt->List Dt)
def fq:Nat->Dt->Bool
 | 0,_=>false
 | n+1,d=>rS d && (dh d).all (fq n)
def rT:Nat->KM->Dt->KM
 | 0,K,_=>K
 | n +1,K,d=>if K.get d>0 then K else
   let q:=(dh d).foldl (λ (q:Bool×KM) t=>(q.1 && fq rS dh n t,if q.1 then rT n q.2 t else q.2)) (rS d,K)
   if fq rS dh (n+1) d then (q.2.put d 1).put d 2 else q.2.put d 1
variable {rS dh} {lv:Dt->Nat} (hlv:∀ d t,t∈dh d->lv t<lv d)
include hlv
theorem qa:∀ (n m:Nat) (d:Dt),lv d<n->lv d<m->fq rS dh n d=fq rS dh m d
 | 0,_,_,h,_=>absurd h (Nat.not_lt_zero _)
 | _,0,_,_,h=>absurd h (Nat.not_lt_zero _)
 | n +1,m+1,d,h1,h2=>by
  simp only [fq]
  congr 1
  rw [Bool.eq_iff_iff,List.all_eq_true,List.all_eq_true];have key:∀ t,t∈dh d->fq rS dh n t=fq rS dh m t:=λ t ht=>by
   have:=hlv d t ht;exact qa n m t (by omega) (by omega)
  exact ⟨λ h t ht=>by rw [<- key t ht];exact h t ht,λ h t ht=>by rw [key t ht];exact h t ht⟩
omit hlv in
def KM.ok (fin:Dt->Bool)(K:KM):Prop:=∀ d,K.get d=0\/K.get d=if fin d then 2 else 1
variable {N:Nat} (hN:∀ d,lv d<N)
include hN
theorem yM:∀ (n:Nat) (K:KM) (d:Dt),lv d<n->K.ok (fq rS dh N)->(rT rS dh n K d).ok (fq rS dh N)/\(rT rS dh n K d).get d=if fq rS dh N d then 2 else 1
 | 0,_,_,h,_=>absurd h (Nat.not_lt_zero _)
 | n + 1,K,d,h,hK=>by
  have ef:fq rS dh (n+1) d=fq rS dh N d:=qa hlv _ _ d h (hN d);have hloop:∀ (T:List Dt) (q:Bool×KM),(∀ t,t∈T->t∈dh d)->q.2.ok (fq rS dh N)->(T.foldl (λ (q:Bool×KM) t=>(q.1 && fq rS dh n t,if q.1 then rT rS dh n q.2 t else q.2)) q).2.ok (fq rS dh N):=λ T=>by
   induction T with
   | nil=>exact λ q _ hq=>hq
   | cons t T ih=>
    intro q hT hq;rw [List.foldl_cons];refine ih _ (λ x hx=>hT x (List.mem_cons_of_mem _ hx)) ?_;dsimp only
    split
    .have:=hlv d t (hT t (List.mem_cons_self ..))
     exact (yM n q.2 t (by omega) hq).1
    .exact hq
  unfold rT
  by_cases hg:K.get d>0
  .rw [if_pos hg]
   exact ⟨hK,(hK d).resolve_left (by omega)⟩
  .rw [if_neg hg]
   have h2:=hloop (dh d) (rS d,K) (λ _ h=>h) hK;dsimp only;generalize ((dh d).foldl (λ (q:Bool×KM) t=>(q.1 && fq rS dh n t,if q.1 then rT rS dh n q.2 t else q.2)) (rS d,K)).2=K2 at h2;rw [ef];cases hf:fq rS dh N d with
   | true=>
    rw [if_pos rfl];refine ⟨λ e=> ?_,by rw [KM.bT];simp⟩;rw [KM.bT,KM.bT]
    by_cases e1:e=d
    .subst e1;rw [if_pos rfl,hf];exact .inr rfl
    .rw [if_neg e1,if_neg e1];exact h2 e
   | false=>
    rw [if_neg (by simp)];refine ⟨λ e=> ?_,by rw [KM.bT];simp⟩;rw [KM.bT]
    by_cases e1:e=d
    .subst e1;rw [if_pos rfl,hf];exact .inr rfl
    .rw [if_neg e1];exact h2 e
end
end
section
attribute [local irreducible] SW RW aJ SC ai an iN yU
def vF (st:aD)(s x m:Nat):List SV:= .ptr s 0:: .ptr x 0::(st.cells++[.mp m])
theorem qb (ρ:Nat->Nat)(st:aD)(s x m:Nat):SV.aQ ρ (vF st s x m)=vF st (ρ s) (ρ x) (ρ m):=by
 unfold vF;simp [SV.aQ,SV.aA,SV.jT,aD.ax]
theorem Bl (q:Nat->Bool)(st:aD)(s x m:Nat)(h:q s=true/\q x=true/\q m=true):SV.ay q (vF st s x m)=true:=by
 unfold vF;simp [SV.ay,SV.ok,SV.jt,aD.aq,h.1,h.2.1,h.2.2]
theorem Nw (st:aD)(s x m:Nat):(vF st s x m)[0]? =some (.ptr s 0):=rfl
theorem Nx (st:aD)(s x m:Nat):(vF st s x m)[1]? =some (.ptr x 0):=rfl
theorem Ny (st:aD)(s x m:Nat):(vF st s x m)[10]? =some (.mp m):=rfl
theorem OD (st:aD)(s x m:Nat):List.take 8 (List.drop 2 (vF st s x m))=st.cells:=rfl
theorem GF (st:aD)(s x m:Nat):(vF st s x m).length=11:=rfl
abbrev Ix.h2 (X:Ix):Hp:=[(2,.box 110 [.any,.mp 3,.mp 4,.mp 5]),(3,.map (ah Dt.cells ov X.ops) X.co),(4,.map (ah Dt.cells dn X.ch) X.cc),(5,.map (ah Dt.cells dn X.kG) X.cf)]
abbrev fT (S:Sh):Hp:=[(6,.box 117 [.ptr 10 0,.mp 7,.mp 8,.mp 9]),(7,.map (ah Dt.cells ov S.ops) S.co),(8,.map (ah Dt.cells iv S.gj) S.ca),(9,.map (ah Dt.cells dv S.mI) S.cl),(10,.box 166 [.mp 11,.mp 12]),(11,.map (ah Dt.cells cv S.tr) S.ct),(12,.map (ah Dt.cells ov S.md) S.cm)]
abbrev fH (S:Sh)(X:Ix)(st:aD)(K:KM):Hp:=(0,.box 134 (vF st 6 2 1))::(1,.map (ah Dt.cells kv K.m) K.c)::(2,.box 110 [.any,.mp 3,.mp 4,.mp 5])::(3,.map (ah Dt.cells ov X.ops) X.co)::(4,.map (ah Dt.cells dn X.ch) X.cc)::(5,.map (ah Dt.cells dn X.kG) X.cf)::fT S
theorem xJ (S:Sh)(X:Ix)(st:aD)(K:KM){k:Nat}(hk:13<=k):(fH S X st K).ok (λ n=>decide (n<k))=true:=by
 refine ak (by simp;omega) (Bl _ _ _ _ _ (by simp;omega)) (ak (by simp;omega) (fC _ _) (ak (by simp;omega) (by simp [Ob.ok,SV.ay,SV.ok];omega) (ak (by simp;omega) (a_ _ _) (ak (by simp;omega) (dw _ _) (ak (by simp;omega) (dw _ _) ?_)))));refine ak (by simp;omega) (by simp [Ob.ok,SV.ay,SV.ok];omega) (ak (by simp;omega) (a_ _ _) (ak (by simp;omega) (bB _ _) (ak (by simp;omega) (jX _ _) (ak (by simp;omega) (by simp [Ob.ok,SV.ay,SV.ok];omega) (ak (by simp;omega) (iG _ _) (ak (by simp;omega) (a_ _ _) rfl))))))
theorem O6 (S:Sh)(X:Ix)(st:aD)(K:KM):∀ y,y∈fH S X st K->lk (fH S X st K) y.1=some y.2:=λ y hy=>by
 simp only [List.mem_cons,List.not_mem_nil,or_false] at hy;rcases hy with rfl | rfl | rfl | rfl | rfl | rfl | rfl | rfl | rfl | rfl | rfl | rfl | rfl <;> rfl
theorem Lu (S:Sh)(X:Ix)(st:aD)(K:KM)(o:Ob):∀ y,y∈fH S X st K->lk ((13,o)::fH S X st K) y.1=some y.2:=λ y hy=>by
 simp only [List.mem_cons,List.not_mem_nil,or_false] at hy;rcases hy with rfl | rfl | rfl | rfl | rfl | rfl | rfl | rfl | rfl | rfl | rfl | rfl | rfl <;> rfl
abbrev fB (S:Sh)(X:Ix)(st:aD)(K:KM)(d:Dt):Hp:=(13,.box 37 d.cells)::fH S X st K
theorem GG (S:Sh)(X:Ix)(st:aD)(K:KM)(d:Dt){k:Nat}(hk:14<=k):(fB S X st K d).ok (λ n=>decide (n<k))=true:=ak (by simp;omega) (by simp [Ob.ok,Dt.aq]) (xJ S X st K (by omega))
theorem J8 (S:Sh)(X:Ix)(st:aD)(K:KM)(d:Dt):∀ y,y∈fB S X st K d->lk (fB S X st K d) y.1=some y.2:=λ y hy=>by
 rcases List.mem_cons.1 hy with rfl | hy
 .rfl
 .exact Lu S X st K _ y hy
theorem GH (S:Sh)(X:Ix)(st:aD)(K:KM)(d:Dt)(o:Ob):∀ y,y∈fB S X st K d->lk ((14,o)::fB S X st K d) y.1=some y.2:=λ y hy=>by
 simp only [List.mem_cons,List.not_mem_nil,or_false] at hy;rcases hy with rfl | rfl | rfl | rfl | rfl | rfl | rfl | rfl | rfl | rfl | rfl | rfl | rfl | rfl <;> rfl
abbrev n13:List Nat:=[0,1,2,3,4,5,6,7,8,9,10,11,12]
theorem J9 (S:Sh)(X:Ix)(st:aD)(K:KM):∀ i,i<13->lk (fH S X st K) i≠none:=λ i hi=>by
 match i,hi with
 | 0,_ | 1,_ | 2,_ | 3,_ | 4,_ | 5,_ | 6,_ | 7,_ | 8,_ | 9,_ | 10,_ | 11,_ | 12,_=>simp [aa]
theorem GI (X:Ix)(hX:X.small)(d:Dt)(k:Nat):aJ Tryz.prog revoke_Index_Threats.f [.ptr 2 0,.agg d.cells] X.h2 k (9+iN 4) (gT X d) X.h2:=by
 have:=SB.nM [2,3,4,5] (I2 X hX d) (by decide) (λ i hi=>by
  match i,hi with
  | 0,_ | 1,_ | 2,_ | 3,_=>simp [aa]) k
 rw [show X.h0.aA (ff [2,3,4,5] k)=X.h2 by simp [Hp.aA,Ob.aA,SV.aQ,SV.aA,ff,bA,dA],show (gT X d).aA (ff [2,3,4,5] k)=gT X d by unfold gT;split <;> simp [SV.aQ,SV.aA]] at this
 simpa [SV.aQ,SV.aA,ff,Dt.ax] using this
def Ix.bL (X:Ix)(d:Dt):List Dt:=if MM.has X.ops d then Dt.set (X.dh (X.op d)) else []
theorem J_ (S:Sh)(X:Ix)(st:aD)(K:KM)(k:Nat):(fH S X st K).aA (ff n13 k)=fH S X st K:=by
 simp [Hp.aA,Ob.aA,SV.aQ,SV.aA,ff,qb,iF,bA,dA,cM,fG,dV]
theorem SW.Nz {P:Program}{N k0:Nat}{c:cu}{st:St}{Q:Exit->St->Prop}{V:DV}{T:List Dt}(h:V= .aN/\T=[]\/SV.d V=bq T)(t:Nat)(hl:st.env.lookup t=some (.d V))(hk:Go.Sl.SW P N k0 c ⟨(t,bq T)::st.env,st.hp,st.k⟩ Q):Go.Sl.SW P N k0 c st Q:=by
 rcases h with ⟨rfl,rfl⟩ | h
 .exact SW.aN t hl hk
 .rw [h] at hl
  exact SW.slot t _ hl (λ _ _ _ _ h=>h) hk
theorem xK (B:Dt->Bool)(F:KM->Dt->KM):∀ (T:List Dt) (q:Bool×KM),(T.foldl (λ (q:Bool×KM) t=>(q.1 && B t,if q.1 then F q.2 t else q.2)) q).1=(q.1 && T.all B)
 | [],q=>by simp
 | t::T,q=>by rw [List.foldl_cons,xK B F T];simp [Bool.and_assoc]
theorem GJ {S:Sh}{X:Ix}{st:aD}{K K':KM}{d:Dt}{b:Bool}(h:SB Tryz.prog final_asker_final.f [.ptr 0 0,.agg d.cells] (fH S X st K) 13 0 λ r F=>r=bl b/\F=fH S X st K')(k:Nat):aJ Tryz.prog final_asker_final.f [.ptr 0 0,.agg d.cells] (fH S X st K) k 0 (bl b) (fH S X st K'):=by
 have:=SB.nM n13 h (by decide) (λ i hi=>J9 S X st K i hi) k;rw [J_,J_] at this
 simpa [SV.aQ,SV.aA,ff,Dt.ax] using this
abbrev j0 (st:aD):Dt->Bool:=λ d=>st.aF d
set_option maxHeartbeats 16000000 in
theorem GK (S:Sh)(X:Ix)(hX:X.small)(st:aD)(lv:Dt->Nat)(hlv:∀ d t,t∈X.bL d->lv t<lv d)(N:Nat)(hN:∀ d,lv d<N)(hT:∀ d,(X.bL d).length<1000000000):
    ∀ (n:Nat) (d:Dt) (K:KM),lv d<n->K.ok (fq (j0 st) X.bL N)->SB Tryz.prog final_asker_final.f [.ptr 0 0,.agg d.cells] (fH S X st K) 13 0 λ r F=>r=bl (fq (j0 st) X.bL N d)/\F=fH S X st (rT (j0 st) X.bL n K d):=by
  intro n
  induction n with
  | zero=>exact λ _ _ h=>absurd h (Nat.not_lt_zero _)
  | succ n ih=>
    intro d K hln hK;refine final_asker_final.enter (by simp [SV.ay,SV.ok]) (xJ S X st K (Nat.le_refl 13)) (by simp) ?_;dsimp only [final_asker_final.s,Co.M,Co.G,Co.J,Co.H,Co.N,Co.F,Co.C,Co.Z,Co.B,Co.b8,Co.aB,Co.T,Co.K,Co.E,Co.L,Co.Q,Co.x,Co.W,Co.Y,Co.V,Co.U,Co.D,Co.A,Co.I,Co.S];have a1:=Nx st 6 2 1;have a2:=OD st 6 2 1;have a3:=Ny st 6 2 1;have al:(10+1<=(vF st 6 2 1).length)=True:=eq_true (by rw [GF];decide);have al2:(2+8<=(vF st 6 2 1).length)=True:=eq_true (by rw [GF];decide);have hlk:=uu K.m d;change _=SV.d (.int .u8 ((K.get d:Nat):Int)) at hlk;have hln1:∀ t,t∈X.bL d->lv t<n:=λ t ht=>by have:=hlv d t ht;omega
    have hfn:fq (j0 st) X.bL (n+1) d=fq (j0 st) X.bL N d:=qa hlv _ _ d hln (hN d);have hS:rT (j0 st) X.bL (n+1) K d=if K.get d>0 then K else
      let q:=(X.bL d).foldl (λ (q:Bool×KM) t=>(q.1 && fq (j0 st) X.bL n t,if q.1 then rT (j0 st) X.bL n q.2 t else q.2)) (j0 st d,K)
      if fq (j0 st) X.bL (n+1) d then (q.2.put d 1).put d 2 else q.2.put d 1:=rfl
    rw [hS];clear hS;dsimp only [fH,fT];refine SW.seq (SW.g0 [0,1,3,4,5,6,8,10,18,36,37,38,39,54] Zm af ?_);refine SW.seq (SW.seq (SW.g0 [0,1,3,4,5,6,8,10,18,36,37,38,39,54] Zm (Zq a3 (Zq al hlk)) ?_));refine SW.seq ?_
    by_cases hg:K.get d>0
    . have g1:decide (((K.get d:Nat):Int)>0)=true:=by simp only [decide_eq_true_eq];omega
      refine SW.g0 [0,1,3,4,5,6,8,10,18,36,37,38,39,54] Zm g1 ?_;refine SW.aj rfl (SW.seq ?_);have g2:(((K.get d:Nat):Int) == 2)=fq (j0 st) X.bL N d:=by
        have:=(hK d).resolve_left (by omega);rw [this];cases fq (j0 st) X.bL N d <;> rfl
      rw [if_pos hg];refine SW.g0 [0,1,3,4,5,6,8,10,18,36,37,38,39,54] Zm g2 ?_;refine SW.ret ?_;exact End.mk (fH S X st K) (h4:=⟨rfl,rfl⟩) (h6:=xJ S X st K (by decide))
    . have g1:decide (((K.get d:Nat):Int)>0)=false:=by simp only [decide_eq_false_iff_not];omega
      refine SW.g0 [0,1,3,4,5,6,8,10,18,36,37,38,39,54] Zm g1 ?_;refine SW.au rfl (SW.skip ?_);rw [if_neg hg];refine SW.seq ?_;have cT:=GI X hX d;obtain ⟨V,e,hV,hVT⟩:∃ (V:DV) (e:Int),gT X d= .eu [.d V,.d (.int .i64 e)]/\(V= .aN/\X.bL d=[]\/SV.d V=bq (X.bL d)):=by
        unfold gT Ix.bL
        split
        . exact ⟨_,0,rfl,.inr rfl⟩
        . exact ⟨.aN,7,rfl,.inl ⟨rfl,rfl⟩⟩
      rw [hV] at cT;refine SW.g1 [0,1,3,4,5,6,8,10,18,36,37,38,39,54] Zm (Zq a1 al) cT ?_;refine SW.weak id (st1:=⟨[(6,.d V),(3,.ptr 13 0),(0,.ptr 0 0)],fB S X st K d,14⟩) (aI.same (by show 13<=14;decide) (by simp [aL,List.lookup,SV.aA,SV.ok,SV.ay]) (GG S X st K d (Nat.le_refl _)) (J8 S X st K d)) ?_;refine SW.Nz hVT 6 rfl ?_;obtain ⟨T,hTe⟩:∃ T,X.bL d=T:=⟨_,rfl⟩;have hTl:=hT d;have hfB:fq (j0 st) X.bL (n+1) d=(j0 st d && T.all (fq (j0 st) X.bL n)):=by rw [<- hTe];rfl
      rw [hTe] at hln1 hTl ⊢;clear hVT hV cT hlk g1 hg hTe;have cC:=pS st d;dsimp only [fB,fH,fT];refine SW.seq (SW.g1 [0,1,3,4,5,6,8,10,18,36,37,38,39,54] Zm (Zq a2 al2) cC ?_);refine SW.seq (SW.seq (SW.g0 [0,1,3,4,5,6,8,10,18,36,37,38,39,54] Zm af ?_));refine SW.block ?_
      let f:Bool×KM->Dt->Bool×KM:=λ q t=>(q.1 && fq (j0 st) X.bL n t,if q.1 then rT (j0 st) X.bL n q.2 t else q.2)
      refine SW.loop (α:={i:Nat // i<=T.length/\((T.take i).foldl f (j0 st d,K)).2.ok (fq (j0 st) X.bL N)}) (λ i=>⟨[(38,i64 i.1),(37,i64 T.length),(36,bq T),(8,bl ((T.take i.1).foldl f (j0 st d,K)).1),(3,.ptr 13 0),(0,.ptr 0 0)],fB S X st ((T.take i.1).foldl f (j0 st d,K)).2 d,14⟩) (λ i=>T.length - i.1) ⟨0,Nat.zero_le _,hK⟩ id (aI.same (by show 13<=14;decide) (by simp [aL,List.lookup,SV.aA,SV.ok,SV.ay]) (GG S X st K d (Nat.le_refl _)) (J8 S X st K d)) ?_;rintro ⟨i,hi,hKi⟩;dsimp only
      by_cases h:i<T.length
      . have h1:decide ((i:Int)<T.length)=true:=by simp only [decide_eq_true_eq];omega
        obtain ⟨t,hx⟩:=aZ h;have e2:IntKind.i64.wrap ((i:Int)+1)=((i+1:Nat):Int):=wrap_i64 _ (by omega);have hsn:(T.take (i+1)).foldl f (j0 st d,K)=f ((T.take i).foldl f (j0 st d,K)) t:=by rw [dB hx,List.foldl_append];rfl
        have htm:=List.mem_of_getElem? hx;have hokt:((T.take (i+1)).foldl f (j0 st d,K)).2.ok (fq (j0 st) X.bL N):=by
          rw [hsn];show (if _ then _ else _:KM).ok _
          split
          . exact (yM hlv hN n _ t (hln1 t htm) hKi).1
          . exact hKi
        have next:∀ (env:List (Nat×SV)) (hp:Hp) (kz:Nat) (q:Bool×KM),(T.take (i+1)).foldl f (j0 st d,K)=q->(∀ y,y∈fB S X st q.2 d->lk hp y.1=some y.2)->aL id 14 env [(38,i64 ((i+1:Nat):Int)),(37,i64 T.length),(36,bq T),(8,bl q.1),(3,.ptr 13 0),(0,.ptr 0 0)]->
            ∃ (j:{i:Nat // i<=T.length/\((T.take i).foldl f (j0 st d,K)).2.ok (fq (j0 st) X.bL N)}) (ρ:Nat->Nat),T.length - j.1<T.length - i/\aI 13 ⟨env,hp,kz⟩ ⟨[(38,i64 j.1),(37,i64 T.length),(36,bq T),(8,bl ((T.take j.1).foldl f (j0 st d,K)).1),(3,.ptr 13 0),(0,.ptr 0 0)],fB S X st ((T.take j.1).foldl f (j0 st d,K)).2 d,14⟩ ρ:=λ env hp kz q hq g1 g2=>by
          refine ⟨⟨i+1,by omega,hokt⟩,id,by show T.length - (i+1)<T.length - i;omega,?_⟩;dsimp only;rw [hq];exact aI.same (by show 13<=14;decide) g2 (GG S X st _ d (Nat.le_refl _)) g1
        clear hokt;have hfi:f ((T.take i).foldl f (j0 st d,K)) t=(((T.take i).foldl f (j0 st d,K)).1 && fq (j0 st) X.bL n t,if ((T.take i).foldl f (j0 st d,K)).1 then rT (j0 st) X.bL n ((T.take i).foldl f (j0 st d,K)).2 t else ((T.take i).foldl f (j0 st d,K)).2):=rfl;rw [hfi] at hsn;clear hfi;generalize (T.take i).foldl f (j0 st d,K)=q at hsn hKi ⊢;obtain ⟨b,K1⟩:=q;dsimp only at hsn hKi ⊢;have cF:=GJ (ih t K1 (hln1 t htm) hKi);rw [<- qa hlv n N t (hln1 t htm) (hN t)] at cF;generalize rT (j0 st) X.bL n K1 t=K2 at cF hsn;generalize fq (j0 st) X.bL n t=bt at cF hsn;dsimp only [fB,fH,fT];refine SW.seq (SW.g0 [0,1,3,4,5,6,8,10,18,36,37,38,39,54] Zm h1 ?_);refine SW.seq (SW.aj rfl (SW.skip (SW.seq (SW.block (SW.seq (SW.g0 [0,1,3,4,5,6,8,10,18,36,37,38,39,54] Zm (iq hx) ?_))))));cases b with
        | false=>
          refine SW.g0 [0,1,3,4,5,6,8,10,18,36,37,38,39,54] Zm af ?_;refine SW.g0 [0,1,3,4,5,6,8,10,18,36,37,38,39,54] Zm e2 ?_;exact next _ _ _ (false,K1) (by rw [hsn];rfl) (GH S X st K1 d _) (by simp [aL,List.lookup,SV.aA,SV.ok,SV.ay])
        | true=>
          refine SW.g1 [0,1,3,4,5,6,8,10,18,36,37,38,39,54] Zm af cF ?_;refine SW.g0 [0,1,3,4,5,6,8,10,18,36,37,38,39,54] Zm e2 ?_;exact next _ _ _ (bt,K2) (by rw [hsn];rfl) (GH S X st K2 d _) (by simp [aL,List.lookup,SV.aA,SV.ok,SV.ay])
      . have h1:decide ((i:Int)<T.length)=false:=by simp only [decide_eq_false_iff_not];omega
        have hi2:i=T.length:=by omega
        subst hi2;rw [List.take_length] at hKi ⊢;have hq1:(T.foldl f (j0 st d,K)).1=fq (j0 st) X.bL N d:=by
          rw [<- hfn,hfB];exact xK (fq (j0 st) X.bL n) (rT (j0 st) X.bL n) T (j0 st d,K)
        rw [<- hfn] at hq1 ⊢;show Sl.SW _ _ _ _ _ _;generalize fq (j0 st) X.bL (n+1) d=bf at*;generalize hqe:T.foldl f (j0 st d,K)=q at*;obtain ⟨b,K1⟩:=q;dsimp only at hq1 hKi ⊢;subst hq1;dsimp only [fB,fH,fT];refine SW.seq (SW.g0 [0,1,3,4,5,6,8,10,18,36,37,38,39,54] Zm h1 ?_);refine SW.seq (SW.au rfl (SW.exit ?_));refine (?_:Sl.SW _ _ _ _ _ _);have m1:iZ (ah Dt.cells kv K1.m) K1.c (.agg d.cells) (.d (.int .u8 1)) (MM.idx K1.m d)= .map (ah Dt.cells kv (K1.put d 1).m) (K1.put d 1).c:=rR K1.m K1.c d 1;refine SW.seq (SW.g0 [0,1,3,4,5,6,8,10,18,36,37,38,39,54] Zm (Zq a3 (Zq al m1)) ?_);refine SW.seq (SW.seq (SW.g0 [0,1,3,4,5,6,8,10,18,36,37,38,39,54] Zm af ?_));have m2:iZ (ah Dt.cells kv (K1.put d 1).m) (K1.put d 1).c (.agg d.cells) (.d (.int .u8 2)) (MM.idx (K1.put d 1).m d)= .map (ah Dt.cells kv ((K1.put d 1).put d 2).m) ((K1.put d 1).put d 2).c:=rR (K1.put d 1).m (K1.put d 1).c d 2;generalize K1.put d 1=K2 at m2 ⊢;cases b with
        | true=>
          refine SW.aj rfl (SW.g0 [0,1,3,4,5,6,8,10,18,36,37,38,39,54] Zm (Zq a3 (Zq al m2)) ?_);refine SW.seq (SW.g0 [0,1,3,4,5,6,8,10,18,36,37,38,39,54] Zm af ?_);refine SW.ret ?_;exact End.mk (fH S X st (K2.put d 2)) (h4:=⟨rfl,rfl⟩) (h6:=xJ S X st _ (by decide))
        | false=>
          refine SW.au rfl (SW.skip (SW.seq (SW.g0 [0,1,3,4,5,6,8,10,18,36,37,38,39,54] Zm af ?_)));refine SW.ret ?_;exact End.mk (fH S X st K2) (h4:=⟨rfl,rfl⟩) (h6:=xJ S X st _ (by decide))
end
end Go.Proofs.YtaelhkkjgfobhaaGreat
namespace Go.Proofs.YtaelhkkjgfobhaaGreat
open Go.Sl Go.Proofs
section
structure IM where
 m:MM Dt Int
 c:Nat
def IM.put (M:IM)(d:Dt)(n:Int):IM:=⟨MM.put M.m M.c d n,MM.jh M.m M.c d⟩
def IM.get (M:IM)(d:Dt):Int:=(MM.get M.m d).getD 0
theorem IM.bT (M:IM)(d e:Dt)(n:Int):(M.put d n).get e=if e=d then n else M.get e:=by
 unfold IM.put IM.get;rw [MM.bT]
 split <;> rfl
inductive Reach (dh:Dt->List Dt):Dt->Dt->Prop
 | refl (d:Dt):Reach dh d d
 | step {d t e:Dt} (ht:t∈dh d) (h:Reach dh t e):Reach dh d e
section
variable (dh:Dt->List Dt)
def qH:Nat->IM->Dt->IM
 | 0,M,_=>M
 | n+1,M,d=>if M.get d>0 then M else (dh d).foldl (qH n) (M.put d 1)
variable {dh}
theorem Reach.trans {a b c:Dt}(h:Reach dh a b)(h2:Reach dh b c):Reach dh a c:=by
 induction h with
 | refl=>exact h2
 | step ht _ ih=>exact .step ht (ih h2)
variable {lv:Dt->Nat} (hlv:∀ d t,t∈dh d->lv t<lv d)
include hlv
theorem Reach.low {a b:Dt}(h:Reach dh a b):b=a\/lv b<lv a:=by
 induction h with
 | refl=>exact .inl rfl
 | step ht _ ih=>
  have:=hlv _ _ ht;rcases ih with rfl | h
  .exact .inr this
  .exact .inr (by omega)
theorem qI {rS:Dt->Bool}:∀ (n:Nat) (d:Dt),lv d<n->(fq rS dh n d=true↔∀ e,Reach dh d e->rS e=true)
 | 0,_,h=>absurd h (Nat.not_lt_zero _)
 | n + 1,d,h=>by
  simp only [fq,Bool.and_eq_true,List.all_eq_true];constructor
  .rintro ⟨h1,h2⟩ e he
   cases he with
   | refl=>exact h1
   | step ht hr=>
    have:=hlv _ _ ht;exact (qI n _ (by omega)).1 (h2 _ ht) e hr
  .intro h1
   refine ⟨h1 d (.refl d),λ t ht=> ?_⟩;have:=hlv _ _ ht;exact (qI n t (by omega)).2 λ e he=>h1 e (.step ht he)
omit hlv in
def IM.Fg (dh:Dt->List Dt)(lv:Dt->Nat)(M:IM)(L:Nat):Prop:=∀ e,M.get e>0->lv e<L->∀ t,t∈dh e->M.get t>0
structure OE (dh:Dt->List Dt)(lv:Dt->Nat)(M:IM)(d:Dt)(M':IM):Prop where
 up:∀ e,M.get e>0->M'.get e>0
 at_:M'.get d>0
 new:∀ e,M'.get e>0->M.get e>0\/Reach dh d e
 Fg:∀ L,lv d<L->M.Fg dh lv L->M'.Fg dh lv L
theorem GL : ∀ (n:Nat) (M:IM) (d:Dt),lv d<n->OE dh lv M d (qH dh n M d)
  | 0,_,_,h=>absurd h (Nat.not_lt_zero _)
  | n + 1, M, d,h=>by
    unfold qH
    by_cases hg:M.get d>0
    . rw [if_pos hg]
      exact ⟨λ _ h=>h,hg,λ _ h=> .inl h,λ _ _ h=>h⟩
    . rw [if_neg hg]
      have hp:∀ e,(M.put d 1).get e>0↔M.get e>0\/e=d:=λ e=>by
        rw [IM.bT]
        by_cases e1:e=d
        . simp [e1]
        . simp [e1]
      have hloop:∀ (T:List Dt) (M1:IM),(∀ t,t∈T->t∈dh d)->(∀ e,M1.get e>0->(T.foldl (qH dh n) M1).get e>0)/\(∀ t,t∈T->(T.foldl (qH dh n) M1).get t>0)/\(∀ e,(T.foldl (qH dh n) M1).get e>0->M1.get e>0\/(Reach dh d e/\lv e<lv d))/\(M1.Fg dh lv (lv d)->(T.foldl (qH dh n) M1).Fg dh lv (lv d)):=λ T=>by
        induction T with
        | nil=>exact λ M1 _=>⟨λ _ h=>h,(λ t h=>by cases h),λ _ h=> .inl h,λ h=>h⟩
        | cons t T ih=>
          intro M1 hT;rw [List.foldl_cons];have htd:=hT t (List.mem_cons_self ..);have hlt:=hlv d t htd;obtain ⟨w1,w2,w3,w4⟩:=GL n M1 t (by omega);obtain ⟨i1,i2,i3,i4⟩:=ih (qH dh n M1 t) λ x hx=>hT x (List.mem_cons_of_mem _ hx)
          refine ⟨λ e he=>i1 e (w1 e he),λ x hx=> ?_,λ e he=> ?_,λ hc=>i4 (w4 _ hlt hc)⟩
          . rcases List.mem_cons.1 hx with rfl | hx
            . exact i1 _ w2
            . exact i2 x hx
          . rcases i3 e he with he | he
            . rcases w3 e he with he | he
              . exact .inl he
              . refine .inr ⟨.step htd he,?_⟩
                rcases he.low hlv with rfl | h
                . exact hlt
                . omega
            . exact .inr he
      obtain ⟨l1,l2,l3,l4⟩:=hloop (dh d) (M.put d 1) λ _ h=>h
      refine ⟨λ e he=>l1 e ((hp e).2 (.inl he)),l1 d ((hp d).2 (.inr rfl)),λ e he=> ?_,λ L hL hc e he hle t ht=> ?_⟩
      . rcases l3 e he with he | he
        . rcases (hp e).1 he with he | rfl
          . exact .inl he
          . exact .inr (.refl _)
        . exact .inr he.1
      . have hc0:(M.put d 1).Fg dh lv (lv d):=λ x hx hlx y hy=>by
          rcases (hp x).1 hx with hx | rfl
          . exact (hp y).2 (.inl (hc x hx (by omega) y hy))
          . omega
        rcases l3 e he with he1 | ⟨_,hl1⟩
        . rcases (hp e).1 he1 with he1 | rfl
          . exact l1 t ((hp t).2 (.inl (hc e he1 hle t ht)))
          . exact l2 t ht
        . exact l4 hc0 e he hl1 t ht
theorem Dz {n:Nat}{d:Dt}(h:lv d<n)(e:Dt):(qH dh n ⟨[],0⟩ d).get e>0↔Reach dh d e:=by
 obtain ⟨_,w2,w3,w4⟩:=GL hlv n ⟨[],0⟩ d h;constructor
 .intro he
  rcases w3 e he with he | he
  .exact absurd he (by simp [IM.get,MM.get])
  .exact he
 .have hc:∀ L,(qH dh n ⟨[],0⟩ d).Fg dh lv L:=λ L=>by
   have:=w4 (max L (lv d+1)) (by omega) (λ x hx=>absurd hx (by simp [IM.get,MM.get]));exact λ e he hl t ht=>this e he (by omega) t ht
  intro hr;have key:∀ {a b:Dt},Reach dh a b->(qH dh n ⟨[],0⟩ d).get a>0->(qH dh n ⟨[],0⟩ d).get b>0:=λ h=>by
   induction h with
   | refl=>exact id
   | step ht _ ih=>exact λ ha=>ih (hc _ _ ha (Nat.lt_succ_self _) _ ht)
  exact key hr w2
omit hlv in
def IM.good (M:IM):Prop:=MM.wf M.m M.c/\∀ e,MM.has M.m e=true->M.get e>0
omit hlv in
theorem IM.good.put {M:IM}(h:M.good)(d:Dt):(M.put d 1).good:=by
 refine ⟨MM.fV h.1 _ _,λ e he=> ?_⟩;rw [IM.bT]
 by_cases e1:e=d
 .rw [if_pos e1];decide
 .rw [if_neg e1]
  refine h.2 e ?_;have:=MM.lU (L:=M.m) (c:=M.c) (a:=d) (v:=(1:Int)) (b:=e);have he':MM.has (MM.put M.m M.c d 1) e=true:=he;rw [this] at he'
  simpa [e1] using he'
omit hlv in
theorem Ah:∀ (n:Nat) (M:IM) (d:Dt),M.good->(qH dh n M d).good
 | 0,_,_,h=>h
 | n + 1,M,d,h=>by
  unfold qH
  split
  .exact h
  .have key:∀ (T:List Dt) (M1:IM),M1.good->(T.foldl (qH dh n) M1).good:=λ T=>by
    induction T with
    | nil=>exact λ _ h=>h
    | cons t T ih=>exact λ M1 h1=>ih _ (Ah n M1 t h1)
   exact key _ _ (h.put d)
omit hlv in
theorem IM.NA:(IM.mk [] 0).good:=⟨MM.j7,λ e he=>by simp [MM.has,MM.get] at he⟩
omit hlv in
theorem IM.good.has {M:IM}(h:M.good)(e:Dt):MM.has M.m e=true↔M.get e>0:=by
 refine ⟨h.2 e,λ hg=> ?_⟩;unfold IM.get at hg;unfold MM.has;cases hm:MM.get M.m e with
 | none=>rw [hm] at hg;exact absurd hg (by decide)
 | some v=>rfl
end
end
section
attribute [local irreducible] SW RW aJ SC ai an iN yU
abbrev wH (S:Sh)(X:Ix)(st:aD)(K:KM)(M:IM):Hp:=(13,.map (ah Dt.cells iv M.m) M.c)::fH S X st K
theorem Ai (S:Sh)(X:Ix)(st:aD)(K:KM)(M:IM){k:Nat}(hk:14<=k):(wH S X st K M).ok (λ n=>decide (n<k))=true:=ak (by simp;omega) (bB _ _) (xJ S X st K (by omega))
abbrev wB (S:Sh)(X:Ix)(st:aD)(K:KM)(M:IM)(d:Dt):Hp:=(14,.box 37 d.cells)::wH S X st K M
theorem GM (S:Sh)(X:Ix)(st:aD)(K:KM)(M:IM)(d:Dt){k:Nat}(hk:15<=k):(wB S X st K M d).ok (λ n=>decide (n<k))=true:=ak (by simp;omega) (by simp [Ob.ok,Dt.aq]) (Ai S X st K M (by omega))
theorem GN (S:Sh)(X:Ix)(st:aD)(K:KM)(M:IM)(d:Dt):∀ y,y∈wB S X st K M d->lk (wB S X st K M d) y.1=some y.2:=λ y hy=>by
 simp only [List.mem_cons,List.not_mem_nil,or_false] at hy;rcases hy with rfl | rfl | rfl | rfl | rfl | rfl | rfl | rfl | rfl | rfl | rfl | rfl | rfl | rfl | rfl <;> rfl
theorem Lv (S:Sh)(X:Ix)(st:aD)(K:KM)(M:IM)(d:Dt)(o:Ob):∀ y,y∈wB S X st K M d->lk ((15,o)::wB S X st K M d) y.1=some y.2:=λ y hy=>by
 simp only [List.mem_cons,List.not_mem_nil,or_false] at hy;rcases hy with rfl | rfl | rfl | rfl | rfl | rfl | rfl | rfl | rfl | rfl | rfl | rfl | rfl | rfl | rfl <;> rfl
abbrev n14:List Nat:=[0,1,2,3,4,5,6,7,8,9,10,11,12,13]
theorem J' (S:Sh)(X:Ix)(st:aD)(K:KM)(M:IM):∀ i,i<14->lk (wH S X st K M) i≠none:=λ i hi=>by
 match i,hi with
 | 0,_ | 1,_ | 2,_ | 3,_ | 4,_ | 5,_ | 6,_ | 7,_ | 8,_ | 9,_ | 10,_ | 11,_ | 12,_ | 13,_=>simp [aa]
theorem Ka (S:Sh)(X:Ix)(st:aD)(K:KM)(M:IM)(k:Nat):(wH S X st K M).aA (ff n14 k)=wH S X st K M:=by
 simp [Hp.aA,Ob.aA,SV.aQ,SV.aA,ff,qb,iF,bA,dA,cM,fG,dV]
theorem GO {S:Sh}{X:Ix}{st:aD}{K:KM}{M M':IM}{d:Dt}(h:SB Tryz.prog final_asker_waits.f [.ptr 0 0,.agg d.cells,.mp 13] (wH S X st K M) 14 0 λ r F=>r= .eu []/\F=wH S X st K M')(k:Nat):aJ Tryz.prog final_asker_waits.f [.ptr 0 0,.agg d.cells,.mp 13] (wH S X st K M) k 0 (.eu []) (wH S X st K M'):=by
 have:=SB.nM n14 h (by decide) (λ i hi=>J' S X st K M i hi) k;rw [Ka,Ka] at this
 simpa [SV.aQ,SV.aA,ff,Dt.ax] using this
set_option maxHeartbeats 16000000 in
theorem GP (S:Sh)(X:Ix)(hX:X.small)(st:aD)(K:KM)(lv:Dt->Nat)(hlv:∀ d t,t∈X.bL d->lv t<lv d)(hT:∀ d,(X.bL d).length<1000000000):
    ∀ (n:Nat) (d:Dt) (M:IM),lv d<n->SB Tryz.prog final_asker_waits.f [.ptr 0 0,.agg d.cells,.mp 13] (wH S X st K M) 14 0 λ r F=>r= .eu []/\F=wH S X st K (qH X.bL n M d):=by
  intro n
  induction n with
  | zero=>exact λ _ _ h=>absurd h (Nat.not_lt_zero _)
  | succ n ih=>
    intro d M hln;refine final_asker_waits.enter (by simp [SV.ay,SV.ok]) (Ai S X st K M (Nat.le_refl 14)) (by simp) ?_;dsimp only [final_asker_waits.s,Co.M,Co.J,Co.N,Co.F,Co.Z,Co.b8,Co.aB,Co.i6,Co.T,Co.K,Co.E,Co.L,Co.Q,Co.R,Co.x,Co.W,Co.Y,Co.V,Co.D,Co.A,Co.I,Co.S];have a1:=Nx st 6 2 1;have al:(1+1<=(vF st 6 2 1).length)=True:=eq_true (by rw [GF];decide);have hlk:=lu (kc:=Dt.cells) M.m d;change _=SV.d (.int .i64 (M.get d)) at hlk;have hln1:∀ t,t∈X.bL d->lv t<n:=λ t ht=>by have:=hlv d t ht;omega
    have hS:qH X.bL (n+1) M d=if M.get d>0 then M else (X.bL d).foldl (qH X.bL n) (M.put d 1):=rfl
    rw [hS];clear hS;dsimp only [wH,fH,fT];refine SW.seq (SW.g0 [0,1,2,4,6,9,13,25,26,27,28] Zm af ?_);refine SW.seq (SW.seq ?_)
    by_cases hg:M.get d>0
    . have g1:decide (M.get d>0)=true:=decide_eq_true hg
      refine SW.g0 [0,1,2,4,6,9,13,25,26,27,28] Zm (Zq hlk g1) ?_;refine SW.aj rfl ?_;rw [if_pos hg];refine SW.ret ?_;exact End.mk (wH S X st K M) (h4:=⟨rfl,rfl⟩) (h6:=Ai S X st K M (by decide))
    . have g1:decide (M.get d>0)=false:=decide_eq_false hg
      refine SW.g0 [0,1,2,4,6,9,13,25,26,27,28] Zm (Zq hlk g1) ?_;refine SW.au rfl (SW.skip ?_);rw [if_neg hg];have m1:iZ (ah Dt.cells iv M.m) M.c (.agg d.cells) (.d (.int .i64 1)) (MM.idx M.m d)= .map (ah Dt.cells iv (M.put d 1).m) (M.put d 1).c:=lz M.m M.c d 1;generalize M.put d 1=M0 at m1 ⊢;refine SW.seq (SW.g0 [0,1,2,4,6,9,13,25,26,27,28] Zm m1 ?_);refine SW.seq ?_;have cT:=GI X hX d;obtain ⟨V,e,hV,hVT⟩:∃ (V:DV) (e:Int),gT X d= .eu [.d V,.d (.int .i64 e)]/\(V= .aN/\X.bL d=[]\/SV.d V=bq (X.bL d)):=by
        unfold gT Ix.bL
        split
        . exact ⟨_,0,rfl,.inr rfl⟩
        . exact ⟨.aN,7,rfl,.inl ⟨rfl,rfl⟩⟩
      rw [hV] at cT;refine SW.g1 [0,1,2,4,6,9,13,25,26,27,28] Zm (Zq a1 al) cT ?_;refine SW.weak id (st1:=⟨[(6,.d V),(0,.ptr 0 0),(2,.mp 13)],wB S X st K M0 d,15⟩) (aI.same (by show 14<=15;decide) (by simp [aL,List.lookup,SV.aA,SV.ok,SV.ay]) (GM S X st K M0 d (Nat.le_refl _)) (GN S X st K M0 d)) ?_;refine SW.Nz hVT 6 rfl ?_;obtain ⟨T,hTe⟩:∃ T,X.bL d=T:=⟨_,rfl⟩;have hTl:=hT d;rw [hTe] at hln1 hTl ⊢;clear hVT hV cT hlk g1 hg hTe m1;dsimp only [wB,wH,fH,fT];refine SW.seq (SW.g0 [0,1,2,4,6,9,13,25,26,27,28] Zm af ?_);refine SW.block (SW.loop (α:={i:Nat // i<=T.length}) (λ i=>⟨[(27,i64 i.1),(26,i64 T.length),(25,bq T),(0,.ptr 0 0),(2,.mp 13)],wB S X st K ((T.take i.1).foldl (qH X.bL n) M0) d,15⟩) (λ i=>T.length - i.1) ⟨0,Nat.zero_le _⟩ id (aI.same (by show 14<=15;decide) (by simp [aL,List.lookup,SV.aA,SV.ok,SV.ay]) (GM S X st K M0 d (Nat.le_refl _)) (GN S X st K M0 d)) ?_);rintro ⟨i,hi⟩;dsimp only
      by_cases h:i<T.length
      . have h1:decide ((i:Int)<T.length)=true:=by simp only [decide_eq_true_eq];omega
        obtain ⟨t,hx⟩:=aZ h;have e2:IntKind.i64.wrap ((i:Int)+1)=((i+1:Nat):Int):=wrap_i64 _ (by omega);have hsn:(T.take (i+1)).foldl (qH X.bL n) M0=qH X.bL n ((T.take i).foldl (qH X.bL n) M0) t:=by rw [dB hx,List.foldl_append];rfl
        have cF:=GO (ih t ((T.take i).foldl (qH X.bL n) M0) (hln1 t (List.mem_of_getElem? hx)));rw [<- hsn] at cF;have next:∀ (env:List (Nat×SV)) (hp:Hp) (kz:Nat),(∀ y,y∈wB S X st K ((T.take (i+1)).foldl (qH X.bL n) M0) d->lk hp y.1=some y.2)->aL id 15 env [(27,i64 ((i+1:Nat):Int)),(26,i64 T.length),(25,bq T),(0,.ptr 0 0),(2,.mp 13)]->
            ∃ (j:{i:Nat // i<=T.length}) (ρ:Nat->Nat),T.length - j.1<T.length - i/\aI 14 ⟨env,hp,kz⟩ ⟨[(27,i64 j.1),(26,i64 T.length),(25,bq T),(0,.ptr 0 0),(2,.mp 13)],wB S X st K ((T.take j.1).foldl (qH X.bL n) M0) d,15⟩ ρ:=λ env hp kz g1 g2=>
          ⟨⟨i+1,by omega⟩,id,by show T.length - (i+1)<T.length - i;omega,aI.same (by show 14<=15;decide) g2 (GM S X st K _ d (Nat.le_refl _)) g1⟩
        generalize (T.take (i+1)).foldl (qH X.bL n) M0=M2 at cF next
        generalize (T.take i).foldl (qH X.bL n) M0=M1 at cF ⊢;dsimp only [wB,wH,fH,fT];refine SW.seq (SW.g0 [0,1,2,4,6,9,13,25,26,27,28] Zm h1 ?_);refine SW.seq (SW.aj rfl (SW.skip (SW.seq (SW.block (SW.seq (SW.g0 [0,1,2,4,6,9,13,25,26,27,28] Zm (iq hx) ?_))))));refine SW.g1 [0,1,2,4,6,9,13,25,26,27,28] Zm af cF ?_;refine SW.g0 [0,1,2,4,6,9,13,25,26,27,28] Zm e2 ?_;exact next _ _ _ (Lv S X st K M2 d _) (by simp [aL,List.lookup,SV.aA,SV.ok,SV.ay])
      . have h1:decide ((i:Int)<T.length)=false:=by simp only [decide_eq_false_iff_not];omega
        have hi2:i=T.length:=by omega
        subst hi2;rw [List.take_length];generalize T.foldl (qH X.bL n) M0=M2;dsimp only [wB,wH,fH,fT];refine SW.seq (SW.g0 [0,1,2,4,6,9,13,25,26,27,28] Zm h1 ?_);have fin:Go.Sl.Fin 14 0 [] (λ r F=>r= .eu []/\F=wH S X st K M2) ⟨[],wH S X st K M2,15⟩:=End.mk (wH S X st K M2) (h3:=λ _ _ h=>h) (h4:=⟨rfl,rfl⟩) (h6:=Ai S X st K M2 (by decide));refine SW.seq (SW.au rfl (SW.weak id (st1:=⟨[],wH S X st K M2,15⟩) (aI.same (by show 14<=15;decide) trivial (Ai S X st K M2 (by show 14<=15;decide)) (λ y hy=>GN S X st K M2 d y (List.mem_cons_of_mem _ hy))) (SW.exit ?_)));exact fin
end
section
attribute [local irreducible] SW RW aJ SC ai an
structure Lw {σ:Type}(P:Program)(g:Nat)(first cap:List SV)(Fh:σ->Hp)(nx:σ->Dt->σ)(p:Dt->Bool)(aP:Nat)(inv:σ->Prop):Prop where
 nd:∀ s,((Fh s).map (·.1)).Nodup
 nm:∀ s s',(Fh s').map (·.1)=(Fh s).map (·.1)
 step:∀ s x,inv s->inv (nx s x)
 ok:∀ s x q,(Fh s).ok q=true->(Fh (nx s x)).ok q=true
 call:∀ s x k,inv s->(Fh s).ok (λ n=>decide (n<k))=true->aJ P g (first++[.agg x.cells]++cap) (Fh s) k aP (bl (p x)) (Fh (nx s x))
 a1:∀ s q,(Fh s).ok q=true->SV.ay q first=true/\SV.ay q cap=true
 cl:∀ s,(Fh s).ok (λ m=>(lk (Fh s) m).isSome)=true
section
variable {σ:Type} {g:Nat} {first cap:List SV} {Fh:σ->Hp} {nx:σ->Dt->σ} {p:Dt->Bool} {aP:Nat} {inv:σ->Prop}
variable (hI:Lw Tryz.prog g first cap Fh nx p aP inv)
include hI
theorem Lw.out {bx:Nat}{s:σ}(h:lk (Fh s) bx=none)(s':σ):lk (Fh s') bx=none:=iL (by rw [hI.nm s s'];exact dS h)
set_option maxHeartbeats 4000000 in
theorem GQ (s:σ)(hs:inv s)(d:Dt)(bx k:Nat)(AW:lk (Fh s) bx=none)(hbk:bx<k)(hok:(Fh s).ok (λ n=>decide (n<k))=true):
  SB Tryz.prog final_asker_some_1.f [.agg d.cells,.ptr bx 0] ((bx,.box 67 [.fn (.func g) first cap])::Fh s) k (1+aP) λ r F=>r=bl (!p d)/\F=(bx,.box 67 [.fn (.func g) first cap])::Fh (nx s d):=by
 obtain ⟨o1,o2⟩:=hI.a1 s _ hok;refine final_asker_some_1.enter (by simp [SV.ay,SV.ok,hbk,Dt.aq]) (ak (by simpa using hbk) (by simp [Ob.ok,SV.ay,SV.ok,o1,o2]) hok) (by simp) ?_;dsimp only [final_asker_some_1.s,Co.M,Co.J,Co.F,Co.B,Co.T,Co.K,Co.x,Co.O,Co.S];have f1:=b_ (show k≠bx by omega);have t0:List.lookup k (Fh s)=none:=Hp.out hok (Nat.le_refl _);have t1:lk (Fh s) k=none:=t0;refine SW.seq (SW.g0 [0,1,2,3] Zm (Zq f1 t0) ?_);refine SW.seq ?_;have hc:=hI.call s d (k+1) hs (Hp.bw (Nat.le_succ _) hok);have hsub:HSub (Fh s) ((k,.box 37 d.cells)::(bx,.box 67 [.fn (.func g) first cap])::Fh s):=iC t1 (iC AW λ _ _ h=>h);have ny:(((k,Ob.box 37 d.cells)::(bx,Ob.box 67 [.fn (.func g) first cap])::Fh s:Hp).map (·.1)).Nodup:=jM (by rw [aa,if_neg (by omega)];exact t1) (jM AW (hI.nd s));have hm:cg (cq ((k,Ob.box 37 d.cells)::(bx,Ob.box 67 [.fn (.func g) first cap])::Fh s) (Fh (nx s d)) (Fh s)) (Fh (nx s d))=(k,.box 37 d.cells)::(bx,.box 67 [.fn (.func g) first cap])::Fh (nx s d):=
  lC (pre:=[(k,.box 37 d.cells),(bx,.box 67 [.fn (.func g) first cap])]) (hI.nm _ _) ny
 refine SW.g1 [0,1,2,3] Zm (Zq f1 hm) (Zq hsub hc) ?_;have hok2:=hI.ok s d _ (Hp.bw (show k<=k+(1+aP) by omega) hok);obtain ⟨q1,q2⟩:=hI.a1 s _ (Hp.bw (show k<=k+(1+aP) by omega) hok);refine SW.ret ?_;exact End.mk ((bx,.box 67 [.fn (.func g) first cap])::Fh (nx s d)) (h3:=λ n ob hn=>by
  have hk:n≠k:=λ e=>by
   rw [e,aa,if_neg (by omega),hI.out t1] at hn;cases hn
  rw [aa,if_neg hk];exact hn) (h4:=⟨by cases p d <;> rfl,rfl⟩) (h6:=ak (by simp;omega) (by simp [Ob.ok,SV.ay,SV.ok,q1,q2]) hok2) (h7:=by show k+(1+aP)<=k+1+aP;omega)
theorem Kb {bx:Nat}(s:σ):Hp.ok (λ m=>(lk ((bx,Ob.box 67 [.fn (.func g) first cap])::Fh s) m).isSome) ((bx,.box 67 [.fn (.func g) first cap])::Fh s)=true:=by
 have h2:(Fh s).ok (λ m=>(lk ((bx,Ob.box 67 [.fn (.func g) first cap])::Fh s) m).isSome)=true:=Hp.dH (λ m hm=>by
  rw [aa]
  split
  .rfl
  .exact hm) (hI.cl s)
 obtain ⟨b1,b2⟩:=hI.a1 s _ h2;exact ak (by simp [aa]) (by simp only [Ob.ok,SV.ay,SV.ok,b1,b2,Bool.and_true]) h2
theorem DA {bx:Nat}(AW:∀ s,lk (Fh s) bx=none):s_ Tryz.prog final_asker_some_1.f [] [.ptr bx 0] (λ s=>(bx,.box 67 [.fn (.func g) first cap])::Fh s) (λ s x=>(nx s x,!p x)) (1+aP) (λ _ s=>inv s) (λ _=>True) 1000000000 where
 nd s:=jM (AW s) (hI.nd s)
 nm s x:=by rw [List.map_cons,List.map_cons,hI.nm s]
 nx _ s x h _ _:=hI.step s x h
 ok s x q h:=by
  simp only [Hp.ok,List.all_cons,Bool.and_eq_true] at h ⊢;exact ⟨h.1,hI.ok s x q h.2⟩
 call i s x k h _ _ hk:=by
  have hk2:(Fh s).ok (λ n=>decide (n<k))=true:=by
   simp only [Hp.ok,List.all_cons,Bool.and_eq_true] at hk ⊢;exact hk.2
  have hbk:bx<k:=by
   simp only [Hp.ok,List.all_cons,Bool.and_eq_true,decide_eq_true_eq] at hk;exact hk.1.1
  unfold aJ;have hqo:=Kb hI (bx:=bx) s;refine (GQ hI s h x bx k (AW s) hbk hk2).here _ (λ m hm e=>by rw [e] at hm;cases hm) (by simp [SV.ay,SV.ok,Dt.aq,aa]) hqo ?_;rintro r F ⟨rfl,rfl⟩ _ _;refine ⟨by cases p x <;> rfl,?_⟩;have e1:(lk ((bx,Ob.box 67 [.fn (.func g) first cap])::Fh s) bx).isSome=true:=by simp [aa]
  have e3:(Fh s).ok (λ m=>(lk ((bx,Ob.box 67 [.fn (.func g) first cap])::Fh s) m).isSome)=true:=by
   unfold Hp.ok at hqo ⊢;rw [List.all_cons,Bool.and_eq_true] at hqo;exact hqo.2
  have e4:=hI.ok s x _ e3;obtain ⟨b1,b2⟩:=hI.a1 _ _ e4;refine Hp.dH (λ m hm=>by rw [hm];rfl) (ak e1 ?_ e4);simp only [Ob.ok,SV.ay,SV.ok,b1,b2,Bool.and_true]
 a1 s q h:=by
  simp only [Hp.ok,List.all_cons,Bool.and_eq_true] at h;exact ⟨rfl,by simp [SV.ay,SV.ok,h.1.1]⟩
omit hI in
theorem xL {pre F F' G:Hp}(he:F.map (·.1)=F'.map (·.1))(hn:((pre++F).map (·.1)).Nodup)(hG:∀ n,n∈F.map (·.1)->(lk G n).isSome=true):cg (cq (pre++F) G F) F'=pre++F':=by
 have h1:=lC (pre:=pre) he hn;rw [jG λ m hm=>by rw [he] at hm;obtain ⟨q,hq⟩:=iT hm;rw [hq];rfl] at h1;rw [jG hG];exact h1
theorem Jb (s:σ):∀ (l:List Dt),(dZ (λ s x=>(nx s x,!p x)) s l).1=l.filter p:=λ l=>by
 induction l generalizing s with
 | nil=>rfl
 | cons x l ih=>
  simp only [dZ,ih,List.filter_cons];cases p x <;> rfl
set_option maxHeartbeats 4000000 in
theorem Jc (s:σ)(hs:inv s)(a sh x m:Nat)(st:aD)(ds:List Dt)(hds:ds.length<1000000000)(k:Nat)(hok:(Fh s).ok (λ n=>decide (n<k))=true)(ha:lk (Fh s) a=some (.box 134 (vF st sh x m)))
    (hD:aJ Tryz.prog shape_Shape_Dots.f [.ptr sh 0] (Fh s) (k+1) 2 (.gs (k+2) ds.length) ((k+2,l9 ds (k+2))::Fh s)) (hall:∀ s n,k<=n->lk (Fh s) n=none):
    SB Tryz.prog final_asker_some.f [.ptr a 0,.fn (.func g) first cap] (Fh s) k (3+(ds.length*(1+aP)+ds.length*(1+aP+1))) λ r F=>∃ s',inv s'/\r= .gs (k+2) (ds.filter p).length/\F=(k+2,l9 (ds.filter p) (k+2))::Fh s':=by
  obtain ⟨o1,o2⟩:=hI.a1 s _ hok;have hak:a<k:=by simpa using (Hp.eF hok ha).1
  refine final_asker_some.enter (by simp [SV.ay,SV.ok,hak,o1,o2]) hok (by simp) ?_;dsimp only [final_asker_some.s,Co.M,Co.J,Co.F,Co.T,Co.P,Co.Q,Co.x,Co.D,Co.A,Co.S];have t0:List.lookup k (Fh s)=none:=hall s k (Nat.le_refl _);have f1:=b_ (show a≠k by omega);have ha':List.lookup a (Fh s)=some (.box 134 (vF st sh x m)):=ha;have a0:=Nw st sh x m;have al:(0+1<=(vF st sh x m).length)=True:=eq_true (by rw [GF];decide);refine SW.seq (SW.g0 [0,1,3,4] Zm t0 ?_);have AW:∀ s,lk (Fh s) k=none:=λ s=>hall s k (Nat.le_refl _)
  have t1:=AW s;have t2:lk (Fh s) (k+2)=none:=hall s _ (by omega);have hsub:HSub (Fh s) ((k,.box 67 [.fn (.func g) first cap])::Fh s):=iC t1 λ _ _ h=>h
  have ny:(([(k,Ob.box 67 [.fn (.func g) first cap])]++Fh s:Hp).map (·.1)).Nodup:=jM t1 (hI.nd s);have hno:lk ((k,Ob.box 67 [.fn (.func g) first cap])::Fh s) (k+2)=none:=by rw [aa,if_neg (by omega)];exact t2
  have hin:∀ n,n∈(Fh s).map (·.1)->(lk (Fh s) n).isSome=true:=λ n hn=>by obtain ⟨q,hq⟩:=iT hn;rw [hq];rfl
  have hm1:cg (cq ((k,Ob.box 67 [.fn (.func g) first cap])::Fh s) ((k+2,l9 ds (k+2))::Fh s) (Fh s)) (Fh s)=(k,.box 67 [.fn (.func g) first cap])::Fh s:=
    xL (pre:=[(k,.box 67 [.fn (.func g) first cap])]) rfl ny λ n hn=>by
      rw [aa]
      split
      . rfl
      . exact hin n hn
  have t2':List.lookup (k+2) (Fh s)=none:=t2;have f2:=b_ (show k+2≠k by omega);have ek:k+1+2=k+3:=rfl;have cE:=DA hI AW;have hokB:Hp.ok (λ n=>decide (n<k+3)) ((k,Ob.box 67 [.fn (.func g) first cap])::Fh s)=true:=ak (by simp) (by
    have:=hI.a1 s _ (Hp.bw (show k<=k+3 by omega) hok);simp [Ob.ok,SV.ay,SV.ok,this.1,this.2]) (Hp.bw (show k<=k+3 by omega) hok)
  have cD:=vE cE ds s hds (by omega) (λ _ _=>trivial) hs (k+2) (k+3) (by omega) ⟨rfl,hokB,by rw [aa,if_neg (by omega)];exact t2⟩ (Kb hI s);obtain ⟨s',hs'⟩:∃ s',(dZ (λ s x=>(nx s x,!p x)) s ds).2=s':=⟨_,rfl⟩;have hk1:(dZ (λ s x=>(nx s x,!p x)) s ds).1=ds.filter p:=Jb hI s ds;have hinv:inv s':=by
    rw [<- hs'];have key:∀ (l:List Dt) (s:σ),inv s->inv (dZ (λ s x=>(nx s x,!p x)) s l).2:=λ l=>by
      induction l with
      | nil=>exact λ s h=>h
      | cons x l ih=>exact λ s h=>ih _ (hI.step s x h)
    exact key ds s hs
  rw [hs',hk1] at cD;have hm2:cg (cq ((k+2,l9 ds (k+2))::(k,Ob.box 67 [.fn (.func g) first cap])::Fh s) ((k+2,l9 (ds.filter p) (k+2))::(k,.box 67 [.fn (.func g) first cap])::Fh s') (Fh s)) (Fh s')=(k+2,l9 ds (k+2))::(k,.box 67 [.fn (.func g) first cap])::Fh s':=
    xL (pre:=[(k+2,l9 ds (k+2)),(k,Ob.box 67 [.fn (.func g) first cap])]) (hI.nm s' s) (jM hno ny) λ n hn=>by
      rw [aa]
      split
      . rfl
      . rw [aa]
        split
        . rfl
        . rw [<- hI.nm s s'] at hn
          obtain ⟨q,hq⟩:=iT hn;rw [hq];rfl
  refine SW.seq ?_
  (have fx:=(Zq f1 (Zq f2 (Zq ha' (Zq a0 (Zq al (Zq hm1 (Zq hm2 (Zq t2' ek))))))));refine SW.dL [0,1,3,4] Zm ?_;(repeat (first | refine RW.ro fx (h:= ?_) | refine RW.skip (h:= ?_) | refine RW.op fx (h:= ?_) | refine RW.dQ fx (h:= ?_) | refine RW.bF (h:= ?_) | (refine RW.bC (h:= ?_);(first | refine ai.mk fx (hs:=hsub) (hc:=hD) (h:= ?_) | refine ai.mk fx (hs:=(λ _ _ h=>h)) (hc:=cD) (h:= ?_)))));refine RW.nil ⟨dI (by kernel_rfl),an.mk (h:= ?_)⟩)
  have hok2:(Fh s').ok (λ n=>decide (n<k+(3+(ds.length*(1+aP)+ds.length*(1+aP+1)))))=true:=by
    have e:=vD cE ds s (q:=λ n=>decide (n<k+(3+(ds.length*(1+aP)+ds.length*(1+aP+1))))) (Hp.bw (by omega) hokB);rw [hs'] at e;unfold Hp.ok at e ⊢;rw [List.all_cons,Bool.and_eq_true] at e;exact e.2
  refine SW.ret ?_;exact End.mk ((k+2,l9 (ds.filter p) (k+2))::Fh s') (h3:=λ n ob hn=>by
    rw [aa] at hn ⊢
    split at hn
    . rename_i e;rw [if_pos e];exact hn
    . rename_i e
      rw [if_neg e,aa,if_neg]
      . exact hn
      . intro e2
        rw [e2,AW s'] at hn;cases hn) (h4:=⟨s',hinv,rfl,rfl⟩) (h5:=by simp [fc,SV.ok];omega) (h6:=ak (by simp;omega) (SV.bg _) hok2) (h7:=by show k+(3+_)<=k+1+2+_;omega)
end
end
section
attribute [local irreducible] SW RW aJ SC ai an iN yU
abbrev NB (S:Sh)(X:Ix)(st:aD)(K:KM):Hp:=(17,.box 134 (vF st 11 15 16))::(16,.map (ah Dt.cells kv K.m) K.c)::(15,.box 110 [.any,.mp 12,.mp 13,.mp 14])::(12,.map (ah Dt.cells ov X.ops) X.co)::(13,.map (ah Dt.cells dn X.ch) X.cc)::(14,.map (ah Dt.cells dn X.kG) X.cf)::
 [(11,.box 117 [.ptr 3 0,.mp 8,.mp 9,.mp 10]),(8,.map (ah Dt.cells ov S.ops) S.co),(9,.map (ah Dt.cells iv S.gj) S.ca),(10,.map (ah Dt.cells dv S.mI) S.cl),(3,.box 166 [.mp 1,.mp 2]),(1,.map (ah Dt.cells cv S.tr) S.ct),(2,.map (ah Dt.cells ov S.md) S.cm)]
abbrev Px:List Nat:=[17,16,15,12,13,14,11,8,9,10,3,1,2]
theorem Jd (S:Sh)(X:Ix)(st:aD)(K:KM)(q:Nat->Bool)(h:∀ n,n∈Px->q n=true):(NB S X st K).ok q=true:=by
 refine ak (h 17 (by decide)) (Bl _ _ _ _ _ ⟨h 11 (by decide),h 15 (by decide),h 16 (by decide)⟩) (ak (h 16 (by decide)) (fC _ _) (ak (h 15 (by decide)) (by simp [Ob.ok,SV.ay,SV.ok,h 12,h 13,h 14]) (ak (h 12 (by decide)) (a_ _ _) (ak (h 13 (by decide)) (dw _ _) (ak (h 14 (by decide)) (dw _ _) ?_)))));refine ak (h 11 (by decide)) (by simp [Ob.ok,SV.ay,SV.ok,h 3,h 8,h 9,h 10]) (ak (h 8 (by decide)) (a_ _ _) (ak (h 9 (by decide)) (bB _ _) (ak (h 10 (by decide)) (jX _ _) (ak (h 3 (by decide)) (by simp [Ob.ok,SV.ay,SV.ok,h 1,h 2]) (ak (h 1 (by decide)) (iG _ _) (ak (h 2 (by decide)) (a_ _ _) rfl))))))
abbrev AA (S:Sh)(X:Ix)(st:aD)(K:KM):Hp:=(18,.box 134 (vF st 12 16 17))::(17,.map (ah Dt.cells kv K.m) K.c)::(16,.box 110 [.any,.mp 13,.mp 14,.mp 15])::(13,.map (ah Dt.cells ov X.ops) X.co)::(14,.map (ah Dt.cells dn X.ch) X.cc)::(15,.map (ah Dt.cells dn X.kG) X.cf)::
 [(12,.box 117 [.ptr 4 0,.mp 9,.mp 10,.mp 11]),(9,.map (ah Dt.cells ov S.ops) S.co),(10,.map (ah Dt.cells iv S.gj) S.ca),(11,.map (ah Dt.cells dv S.mI) S.cl),(4,.box 166 [.mp 2,.mp 3]),(2,.map (ah Dt.cells cv S.tr) S.ct),(3,.map (ah Dt.cells ov S.md) S.cm)]
abbrev OF:List Nat:=[18,17,16,13,14,15,12,9,10,11,4,2,3]
theorem Ct (S:Sh)(X:Ix)(st:aD)(K:KM)(k:Nat):(fH S X st K).aA (ff OF k)=AA S X st K:=by
 simp [Hp.aA,Ob.aA,SV.aQ,SV.aA,ff,qb,iF,bA,dA,cM,fG,dV]
theorem yN (S:Sh)(X:Ix)(st:aD)(K:KM)(q:Nat->Bool)(h:∀ n,n∈OF->q n=true):(AA S X st K).ok q=true:=by
 refine ak (h 18 (by decide)) (Bl _ _ _ _ _ ⟨h 12 (by decide),h 16 (by decide),h 17 (by decide)⟩) (ak (h 17 (by decide)) (fC _ _) (ak (h 16 (by decide)) (by simp [Ob.ok,SV.ay,SV.ok,h 13,h 14,h 15]) (ak (h 13 (by decide)) (a_ _ _) (ak (h 14 (by decide)) (dw _ _) (ak (h 15 (by decide)) (dw _ _) ?_)))));refine ak (h 12 (by decide)) (by simp [Ob.ok,SV.ay,SV.ok,h 4,h 9,h 10,h 11]) (ak (h 9 (by decide)) (a_ _ _) (ak (h 10 (by decide)) (bB _ _) (ak (h 11 (by decide)) (jX _ _) (ak (h 4 (by decide)) (by simp [Ob.ok,SV.ay,SV.ok,h 2,h 3]) (ak (h 2 (by decide)) (iG _ _) (ak (h 3 (by decide)) (a_ _ _) rfl))))))
abbrev OH (S:Sh)(X:Ix)(st:aD)(K:KM):Hp:=(19,.box 134 (vF st 13 17 18))::(18,.map (ah Dt.cells kv K.m) K.c)::(17,.box 110 [.any,.mp 14,.mp 15,.mp 16])::(14,.map (ah Dt.cells ov X.ops) X.co)::(15,.map (ah Dt.cells dn X.ch) X.cc)::(16,.map (ah Dt.cells dn X.kG) X.cf)::
 [(13,.box 117 [.ptr 5 0,.mp 10,.mp 11,.mp 12]),(10,.map (ah Dt.cells ov S.ops) S.co),(11,.map (ah Dt.cells iv S.gj) S.ca),(12,.map (ah Dt.cells dv S.mI) S.cl),(5,.box 166 [.mp 3,.mp 4]),(3,.map (ah Dt.cells cv S.tr) S.ct),(4,.map (ah Dt.cells ov S.md) S.cm)]
abbrev O7:List Nat:=[19,18,17,14,15,16,13,10,11,12,5,3,4]
theorem GR (S:Sh)(X:Ix)(st:aD)(K:KM):Hp.aA (· +1) (NB S X st K)=AA S X st K:=by
 simp only [Hp.aA,List.map_cons,List.map_nil,Ob.aA,SV.aQ,SV.aA,qb,iF,dV,bA,fG,cM,dA]
theorem GS (S:Sh)(X:Ix)(st:aD)(K:KM):Hp.aA (· +2) (NB S X st K)=OH S X st K:=by
 simp only [Hp.aA,List.map_cons,List.map_nil,Ob.aA,SV.aQ,SV.aA,qb,iF,dV,bA,fG,cM,dA]
abbrev l_ (l:List ag):Prop:=∀ o,o∈l->o.kind<256/\o.mW/\o.cl.length<=1048576
theorem Py (st:aD):cG (cG (cG (cG [SV.d .kA,.d .kA,.d (.int .u32 0),.d (.int .u32 0),.d (.int .u32 0),.d (.int .u32 0),.d (.int .u32 0),.d (.int .u32 0),.d (.int .u32 0),.d (.int .u32 0),.d .iV] 0 [.ptr 11 0]) 1 [.ptr 15 0]) 2 st.cells) 10 [.mp 16]=vF st 11 15 16:=rfl
theorem Pz (st:aD):11<=(cG (cG (cG [SV.d .kA,.d .kA,.d (.int .u32 0),.d (.int .u32 0),.d (.int .u32 0),.d (.int .u32 0),.d (.int .u32 0),.d (.int .u32 0),.d (.int .u32 0),.d (.int .u32 0),.d .iV] 0 [.ptr 11 0]) 1 [.ptr 15 0]) 2 st.cells).length:=Nat.le_refl 11
set_option maxHeartbeats 4000000 in
theorem Cu (l:List ag)(hl:l.length<=80)(hd:l_ l)(st:aD):SB Tryz.prog final_asks.f [ops l,.agg st.cells] [] 0 18 λ r F=>∃ S,∃ h:bS l S,r= .ptr 17 0/\F=NB S h.X st ⟨[],0⟩:=by
 refine final_asks.enter (by first | rfl | simp [SV.ok,SV.ay]) (by first | rfl | simp [Hp.ok,Ob.ok,SV.ok,SV.ay,aD.aq]) (by simp) ?_;dsimp only [final_asks.s,Co.M,Co.J,Co.F,Co.aB,Co.K,Co.P,Co.x,Co.S];refine SW.seq (SW.g0 [0,1,3,4,5] Zm af ?_);refine SW.seq (SW.tP ?_);(repeat (first | refine aV.op af (h:= ?_) | refine aV.dQ af (h:= ?_) | refine aV.skip (h:= ?_)));refine aV.bC (Ls l (by omega) (λ o ho=>⟨(hd o ho).1,(hd o ho).2.1⟩)) (HSub.nil _) (h:= ?_);rintro _ _ ⟨S,h,rfl,rfl⟩;simp only [bR,cg,cq,gh,gf,cE,lk,List.lookup,Nat.reduceBEq,BEq.rfl,beq_self_eq_true,if_true,if_false,reduceIte,Nat.reduceEqDiff,Bool.false_eq_true,Option.isSome_some,Option.isSome_none,Nat.reduceAdd];(repeat (first | refine aV.op af (h:= ?_) | refine aV.dQ af (h:= ?_) | refine aV.skip (h:= ?_)));refine aV.nil ?_;have hN:=h.Lt hl (h.short hd);have sA:=Py st;have sB:=Pz st;have sC:(vF st 11 15 16).all SV.dJ=true:=rfl;refine SW.seq (SW.g1 [0,1,3,4,5] Zm (Zq sA sC) hN ?_);refine SW.ret ?_;exact End.mk (NB S h.X st ⟨[],0⟩) (h4:=⟨S,h,rfl,rfl⟩) (h6:=Jd S _ st _ _ (by decide))
theorem Lx (l:List ag)(hl:l.length<=80)(hd:l_ l)(st:aD):SC Tryz.prog final_asks.f [ops l,.agg st.cells] [] 1 18 λ r F=>∃ S,∃ h:bS l S,r= .ptr 18 0/\F=AA S h.X st ⟨[],0⟩:=by
 have:=SB.at (Cu l hl hd st) (· +1) 1 (λ n m h=>absurd h (Nat.not_lt_zero n)) (λ n h=>absurd h (Nat.not_lt_zero n)) (λ i _=>by show 0+i+1=1+i;omega);rw [show SV.aQ (· +1) [ops l,.agg st.cells]=[ops l,.agg st.cells] by simp [SV.aQ,SV.aA,aD.ax]] at this;refine SC.mono (show SC Tryz.prog final_asks.f [ops l,.agg st.cells] [] 1 18 _ from this) ?_;rintro r F ⟨r0,F0,⟨S,h,rfl,rfl⟩,rfl,rfl⟩;exact ⟨S,h,rfl,GR _ _ _ _⟩
theorem Ly (l:List ag)(hl:l.length<=80)(hd:l_ l)(st:aD):SC Tryz.prog final_asks.f [ops l,.agg st.cells] [] 2 18 λ r F=>∃ S,∃ h:bS l S,r= .ptr 19 0/\F=OH S h.X st ⟨[],0⟩:=by
 have:=SB.at (Cu l hl hd st) (· +2) 2 (λ n m h=>absurd h (Nat.not_lt_zero n)) (λ n h=>absurd h (Nat.not_lt_zero n)) (λ i _=>by show 0+i+2=2+i;omega);rw [show SV.aQ (· +2) [ops l,.agg st.cells]=[ops l,.agg st.cells] by simp [SV.aQ,SV.aA,aD.ax]] at this;refine SC.mono (show SC Tryz.prog final_asks.f [ops l,.agg st.cells] [] 2 18 _ from this) ?_;rintro r F ⟨r0,F0,⟨S,h,rfl,rfl⟩,rfl,rfl⟩;exact ⟨S,h,rfl,GS _ _ _ _⟩
end
end Go.Proofs.YtaelhkkjgfobhaaGreat
