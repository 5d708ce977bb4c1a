/-
 Rows of dots: what a function finds; what it strikes.
-/
import Derived.Test.YtaelhkkjgfobhaaGreatRW
set_option linter.unusedSectionVars false
set_option linter.unusedVariables false
set_option linter.unusedSimpArgs false
namespace Go.Proofs.YtaelhkkjgfobhaaGreat
open Go.Sl Go.Proofs
abbrev mJ (l:List Dt):List SV:=List.map SV.d (l.flatMap Dt.ds)
theorem ng {l:List Dt}{i:Nat}{x:Dt}(h:l[i]? =some x):(i*2+2<=(List.map SV.d (l.flatMap Dt.ds)).length)=True:=eq_true (by
 rw[List.length_map,mP,<- Nat.succ_mul];exact Nat.mul_le_mul_right 2 (cU h))
theorem HV {l:List Dt}{i:Nat}(x:Dt)(h:i<l.length):b_ (List.map SV.d (l.flatMap Dt.ds)) (i*2) x.cells=List.map SV.d ((l.set i x).flatMap Dt.ds):=CX Dt.ds 2 (by omega) (λ _=>rfl) l i x h
section
variable {σ:Type}
def fq (step:σ->Dt->σ×Bool):σ->List Dt->Option Nat×σ
 | s,[]=>(none,s)
 | s,x::l=>if (step s x).2 then (some 0,(step s x).1) else ((fq step (step s x).1 l).1.map (· +1),(fq step (step s x).1 l).2)
def fz (step:σ->Dt->σ×Bool):σ->List Dt->List Dt×σ
 | s,[]=>([],s)
 | s,x::l=>(if (step s x).2 then (fz step (step s x).1 l).1 else x::(fz step (step s x).1 l).1,(fz step (step s x).1 l).2)
theorem Ez (step:σ->Dt->σ×Bool):∀ (l:List Dt) (s:σ),(fz step s l).1.length<=l.length
 | [],s=>Nat.le_refl _
 | x::l,s=>by
  have:=Ez step l (step s x).1;simp only[fz]
  split<;>simp<;>omega
theorem yt {step:σ->Dt->σ×Bool}:∀ {l:List Dt} {s:σ},(fq step s l).1=none->fz step s l=(l,(fq step s l).2)
 | [],s,_=>rfl
 | x ::l,s,h=>by
  simp only[fq] at h ⊢
  by_cases e:(step s x).2=true
  .rw[if_pos e] at h;cases h
  .rw[if_neg e] at h ⊢
   have h2:(fq step (step s x).1 l).1=none:=by
    cases hh:(fq step (step s x).1 l).1 with
    | none=>rfl
    | some i=>rw[hh] at h;cases h
   simp only[fz];rw[yt h2,if_neg e]
theorem yu {step:σ->Dt->σ×Bool}:∀ {l:List Dt} {s:σ} {i:Nat},(fq step s l).1=some i->i<l.length/\fz step s l=(l.take i++(fz step (fq step s l).2 (l.drop (i+1))).1,(fz step (fq step s l).2 (l.drop (i+1))).2)
 | [],s,i,h=>by cases h
 | x ::l,s,i,h=>by
  simp only[fq] at h ⊢
  by_cases e:(step s x).2=true
  .rw[if_pos e] at h ⊢
   injection h with h;subst h;simp[fz,e]
  .rw[if_neg e] at h ⊢
   cases hh:(fq step (step s x).1 l).1 with
   | none=>rw[hh] at h;cases h
   | some j=>
    rw[hh] at h;injection h with h;dsimp only at h;subst h;obtain⟨h1,h2⟩:=yu hh;refine⟨by simp;omega,?_⟩;simp only[fz];rw[h2,if_neg e];simp
structure wJ (P:Program)(g:Nat)(first cap:List SV)(Fh:σ->Hp)(step:σ->Dt->σ×Bool)(aV:Nat)(I:Nat->σ->Prop)(G:Dt->Prop)(B:Nat):Prop where
 nd:∀ s,((Fh s).map (·.1)).Nodup
 nm:∀ s x,(Fh (step s x).1).map (·.1)=(Fh s).map (·.1)
 nx:∀ i s x,I i s->G x->i<B->I (i+1) (step s x).1
 ok:∀ s x q,(Fh s).ok q=true->(Fh (step s x).1).ok q=true
 call:∀ i s x k,I i s->G x->i<B->(Fh s).ok (λ n=>decide (n<k))=true->aH P g (first++[.agg x.cells]++cap) (Fh s) k aV (bl (step s x).2) (Fh (step s x).1)
 a1:∀ s q,(Fh s).ok q=true->SV.ax q first=true/\SV.ax q cap=true
end
section
attribute [local irreducible] SW RW aH SC aj ak
variable {σ:Type} {g:Nat} {first cap:List SV} {Fh:σ->Hp} {step:σ->Dt->σ×Bool} {aV:Nat} {I:Nat->σ->Prop} {G:Dt->Prop} {B:Nat}
structure jo (Fh:σ->Hp)(n k:Nat)(s0 s:σ):Prop where
 nm:(Fh s).map (·.1)=(Fh s0).map (·.1)
 ok:(Fh s).ok (λ n=>decide (n<k))=true
 no:lk (Fh s) n=none
theorem jo.mono {n k k':Nat}{s0 s:σ}(h:jo Fh n k s0 s)(hk:k<=k'):jo Fh n k' s0 s:=⟨h.nm,Hp.bJ hk h.ok,h.no⟩
theorem jo.next (hd:wJ Tryz.prog g first cap Fh step aV I G B){n k:Nat}{s0 s:σ}(h:jo Fh n k s0 s)(x:Dt):jo Fh n k s0 (step s x).1:=
 ⟨(hd.nm s x).trans h.nm,hd.ok s x _ h.ok,jM (by rw[hd.nm s x];exact eN h.no)⟩
theorem jo.tc {n k:Nat}{s0 s:σ}(h:jo Fh n k s0 s)(hn:n<k){e sz len:Nat}(ds:List DV):Hp.ok (λ n=>decide (n<k)) ((n,.arr e sz len (ds.map SV.d))::Fh s)=true:=aA (by simpa using hn) (SV.aW _) h.ok
theorem jo.nd (hd:wJ Tryz.prog g first cap Fh step aV I G B){n k:Nat}{s0 s:σ}(h:jo Fh n k s0 s)(o:Ob):(((n,o)::Fh s:Hp).map (·.1)).Nodup:=rU h.no (hd.nd s)
variable (hd:wJ Tryz.prog g first cap Fh step aV I G B)
include hd in
set_option maxHeartbeats 1000000 in
theorem EA (l:List Dt)(s0:σ)(hl:l.length<1000000000)(hB:l.length<=B)(hG:∀ x,x∈l->G x)(hI:I 0 s0)(n k:Nat)(hn:n<k)(h0:jo Fh n k s0 s0):
  SB Tryz.prog slices_IndexFunc_Lapi_Dot_api_Dot.f [.gs n l.length,.fn (.func g) first cap] ((n,.arr 37 2 l.length (mJ l))::Fh s0) k (l.length*aV)
   (λ r F'=>r=AA (fq step s0 l).1/\F'=(n,.arr 37 2 l.length (mJ l))::Fh (fq step s0 l).2):=by
 obtain⟨o1,o2⟩:=hd.a1 s0 _ h0.ok;refine slices_IndexFunc_Lapi_Dot_api_Dot.enter (by simp[SV.ok,SV.ax,o1,o2,hn]) (h0.tc hn _) (by simp) ?_;dsimp only[slices_IndexFunc_Lapi_Dot_api_Dot.s,Co.M,Co.J,Co.F,Co.Z,Co.K,Co.L,Co.Y,Co.V,Co.I,Co.S];refine SW.seq (SW.g0 cJ Zm aa ?_);refine SW.seq (SW.seq (SW.g0 cJ Zm aa ?_));refine SW.block ?_
 refine SW.loop (α:={x:Nat×σ // x.1<=l.length/\I x.1 x.2/\jo Fh n (k+x.1*aV) s0 x.2/\fq step s0 l=((fq step x.2 (l.drop x.1)).1.map (· +x.1),(fq step x.2 (l.drop x.1)).2)})
  (λ x=>⟨[(8,i64 x.1.1),(7,i64 l.length),(0,.gs n l.length),(1,.fn (.func g) first cap)],(n,.arr 37 2 l.length (mJ l))::Fh x.1.2,k+x.1.1*aV⟩) (λ x=>l.length - x.1.1)
  ⟨(0,s0),by omega,hI,by simpa using h0,by simp⟩ id ?_ ?_
 .exact aG.same (by simp) (by simp[aJ,List.lookup,SV.aC,SV.bS,SV.ok,o1,o2,hn]) (by simpa using h0.tc hn _) (aI (h0.nd hd _))
 rintro⟨⟨i,s⟩,hi,hIs,hh,he⟩;dsimp only at hi hIs hh he ⊢;have hkk:k<=k+i*aV:=by omega
 by_cases h:i<l.length
 .have h1:decide ((i:Int)<l.length)=true:=by simp only[decide_eq_true_eq];omega
  obtain⟨x,hx⟩:=aX h;have hdr:l.drop i=x::l.drop (i+1):=by
   rw[List.drop_eq_getElem_cons h];rw[List.getElem?_eq_getElem h] at hx;injection hx with hx;rw[hx]
  have e2:IntKind.i64.wrap ((i:Int)+1)=((i+1:Nat):Int):=wrap_i64 _ (by omega);have hc:=hd.call i s x (k+i*aV) hIs (hG x (List.mem_of_getElem? hx)) (by omega) hh.ok;have hs:HSub (Fh s) ((n,.arr 37 2 l.length (mJ l))::Fh s):=lI hh.no λ _ _ h=>h
  have hm:de (dg ((n,Ob.arr 37 2 l.length (mJ l))::Fh s) (Fh (step s x).1) (Fh s)) (Fh (step s x).1)=(n,.arr 37 2 l.length (mJ l))::Fh (step s x).1:=
   o9 (pre:=[(n,.arr 37 2 l.length (mJ l))]) (hd.nm s x).symm (hh.nd hd _)
  have hh2:=(hh.next hd x).mono (k':=k+i*aV+aV) (by omega);have hk2:k+i*aV+aV=k+(i+1)*aV:=by rw[Nat.succ_mul];omega
  rw[hdr] at he;simp only[fq] at he;refine SW.seq (SW.g0 cJ Zm h1 ?_);refine SW.seq (SW.ai rfl (SW.skip ?_));refine(?_:Sl.SW _ _ _ _ _ _);refine SW.seq (SW.block (SW.seq (SW.g0 cJ Zm aa ?_)));refine SW.seq ?_;rcases hb:(step s x).2 with _|_
  .rw[hb] at hc
   refine SW.g1 cJ Zm (Zq (jI hx) (Zq (ng hx) (hm))) (Zq hs hc) ?_;refine SW.an rfl (SW.skip (SW.g0 cJ Zm e2 ?_));rw[if_neg (by rw[hb];simp)] at he;have hh3:jo Fh n (k+(i+1)*aV) s0 (step s x).1:=by rw[<- hk2];exact hh2
   refine⟨⟨(i+1,(step s x).1),by dsimp only;omega,hd.nx i s x hIs (hG x (List.mem_of_getElem? hx)) (by omega),hh3,?_⟩,id,by simp;omega,?_⟩
   .rw[he]
    simp only[Option.map_map]
    congr 2
    funext j
    simp only[Function.comp];omega
   .exact aG.same (by simp) (by simp[aJ,List.lookup,SV.aC,SV.bS,SV.ok];exact⟨by omega,(hd.a1 s0 _ (Hp.bJ (by omega) h0.ok)).1,(hd.a1 s0 _ (Hp.bJ (by omega) h0.ok)).2⟩) (hh3.tc (by omega) _) (aI (hh3.nd hd _))
  .rw[hb] at hc
   refine SW.g1 cJ Zm (Zq (jI hx) (Zq (ng hx) (hm))) (Zq hs hc) ?_;refine SW.ai rfl (SW.seq ?_);have:k+i*aV+aV<=k+l.length*aV:=by
    have:=Nat.mul_le_mul_right aV (show i+1<=l.length by omega);omega
   refine SW.weak id (st1:=⟨[(5,i64 i)],(n,.arr 37 2 l.length (mJ l))::Fh (step s x).1,k+l.length*aV⟩) (aG.same (by simp) (by simp[aJ,List.lookup,SV.aC,SV.ok]) ((hh2.mono this).tc (by omega) _) (aI (hh2.nd hd _))) ?_;refine SW.g0 cJ Zm aa ?_;rw[if_pos (by rw[hb])] at he;refine SW.ret ?_;rw[he];exact End.mk ((n,.arr 37 2 l.length (mJ l))::Fh (step s x).1) (h3:=λ _ _ h=>h) (h4:=⟨by simp[fB,AA],rfl⟩) (h6:=(hh2.mono this).tc (by omega) _)
 .have h1:decide ((i:Int)<l.length)=false:=by simp only[decide_eq_false_iff_not];omega
  have e:i=l.length:=by omega
  subst e;rw[List.drop_length] at he;refine SW.seq (SW.g0 cJ Zm h1 ?_);refine SW.seq (SW.an rfl (SW.exit ?_));refine(?_:Sl.SW _ _ _ _ _ _);refine SW.seq (SW.g0 cJ Zm aa ?_);refine SW.ret ?_;rw[he];exact End.mk ((n,.arr 37 2 l.length (mJ l))::Fh s) (h3:=λ _ _ h=>h) (h4:=⟨rfl,rfl⟩) (h6:=(hh.mono (by omega)).tc (by omega) _)
include hd in
theorem zy {q:Nat->Bool}:∀ (l:List Dt) (s:σ),(Fh s).ok q=true->(Fh (fq step s l).2).ok q=true
 | [],s,h=>h
 | x::l,s,h=>by
  simp only[fq]
  split
  .exact hd.ok s x q h
  .exact zy l _ (hd.ok s x q h)
include hd in
theorem A4 {q:Nat->Bool}:∀ (l:List Dt) (s:σ),(Fh s).ok q=true->(Fh (fz step s l).2).ok q=true
 | [],s,h=>h
 | x::l,s,h=>A4 l _ (hd.ok s x q h)
include hd in
theorem uV:∀ (l:List Dt) (s:σ),(Fh (fq step s l).2).map (·.1)=(Fh s).map (·.1)
 | [],s=>rfl
 | x::l,s=>by
  simp only[fq]
  split
  .exact hd.nm s x
  .exact(uV l _).trans (hd.nm s x)
include hd in
theorem HW:∀ (l:List Dt) (s:σ) (i:Nat),(∀ x,x∈l->G x)->i+l.length<=B->I i s->∀ j,(fq step s l).1=some j->I (i+j+1) (fq step s l).2
 | [],s,i,_,_,_,j,h=>by cases h
 | x ::l,s,i,hG,hB,hi,j,h=>by
  simp only[List.length_cons] at hB;simp only[fq] at h ⊢
  by_cases e:(step s x).2=true
  .rw[if_pos e] at h ⊢
   injection h with h;subst h;exact hd.nx i s x hi (hG x (by simp)) (by omega)
  .rw[if_neg e] at h ⊢
   cases hh:(fq step (step s x).1 l).1 with
   | none=>rw[hh] at h;cases h
   | some q=>
    rw[hh] at h;injection h with h;dsimp only at h;subst h;have:=HW l (step s x).1 (i+1) (λ y hy=>hG y (List.mem_cons_of_mem _ hy)) (by omega) (hd.nx i s x hi (hG x (by simp)) (by omega)) q hh
    rwa [show i+(q+1)+1=i+1+q+1 by omega]
include hd in
theorem EB (l:List Dt)(s0:σ)(hl:l.length<1000000000)(hB:l.length<=B)(hG:∀ x,x∈l->G x)(hI:I 0 s0)(n k:Nat)(hn:n<k)(h0:jo Fh n k s0 s0)(mz:(Fh s0).ok (λ m=>(lk (Fh s0) m).isSome)=true):
  aH Tryz.prog slices_IndexFunc_Lapi_Dot_api_Dot.f [.gs n l.length,.fn (.func g) first cap] ((n,.arr 37 2 l.length (mJ l))::Fh s0) k (l.length*aV) (AA (fq step s0 l).1) ((n,.arr 37 2 l.length (mJ l))::Fh (fq step s0 l).2):=by
 unfold aH;have hq:=y_ (n:=n) (o:= .arr 37 2 l.length (mJ l)) (λ q=>SV.aW _) mz h0.no;have hq0:(Fh s0).ok (λ m=>(lk ((n,Ob.arr 37 2 l.length (mJ l))::Fh s0) m).isSome)=true:=by
  simp only[Hp.ok,List.all_cons,Bool.and_eq_true] at hq ⊢;exact hq.2
 obtain⟨o1,o2⟩:=hd.a1 s0 _ hq0;refine(EA hd l s0 hl hB hG hI n k hn h0).here (λ m=>(lk ((n,Ob.arr 37 2 l.length (mJ l))::Fh s0) m).isSome) (λ m h e=>by rw[e] at h;cases h) (by simp only[SV.ax,SV.ok,o1,o2,Bool.and_true];simp[af]) hq ?_;rintro x F ⟨rfl,rfl⟩ _ _;refine⟨by unfold AA;split<;>rfl,?_⟩;have:=zy hd l s0 hq0;exact aA (by simp[af]) (SV.aW _) (Hp.eA (λ m hm=>by rw[hm];rfl) this)
end
theorem EC (cur:List Dt)(w m:Nat)(z:List SV)(hz:z.length=2)(hw:w+m=cur.length):(b_ (mJ cur) (w*2) ((List.replicate m z).flatten)).take (w*2)=mJ (cur.take w):=by
 have hl:((List.replicate m z).flatten).length=m*2:=by simp[hz]
 have hc:(mJ cur).length=cur.length*2:=by rw[List.length_map,mP]
 rw[qD (by rw[hl,hc,<- hw,Nat.add_mul];exact Nat.le_refl _),List.append_assoc,List.take_append_of_le_length (by rw[List.length_take,hc,<- hw,Nat.add_mul];omega),List.take_of_length_le (by rw[List.length_take];omega)];show((cur.flatMap Dt.ds).map SV.d).take (w*2)=_;rw[<- List.map_take]
 congr 1
 conv=>lhs;rw[<- List.take_append_drop w cur]
 rw[List.flatMap_append,List.take_append_of_le_length,List.take_of_length_le]
 .rw[mP,List.length_take];exact Nat.mul_le_mul_right 2 (Nat.min_le_left _ _)
 .rw[mP,List.length_take,Nat.min_eq_left (by omega)];exact Nat.le_refl _
section
attribute [local irreducible] SW RW aH SC aj ak
variable {σ:Type} {g:Nat} {first cap:List SV} {Fh:σ->Hp} {step:σ->Dt->σ×Bool} {aV:Nat} {I:Nat->σ->Prop} {G:Dt->Prop} {B:Nat}
variable (hd:wJ Tryz.prog g first cap Fh step aV I G B)
include hd in
set_option maxHeartbeats 4000000 in
theorem Ce (l : List Dt)(s0:σ)(hl:l.length<1000000000)(hB:l.length<=B)(hG:∀ x,x∈l->G x)(hI:I 0 s0)(n k:Nat)(hn:n<k)(h0:jo Fh n k s0 s0)(mz:(Fh s0).ok (λ m=>(lk (Fh s0) m).isSome)=true):
    SB Tryz.prog slices_DeleteFunc_Lapi_Dot_api_Dot.f [.gs n l.length,.fn (.func g) first cap] ((n,.arr 37 2 l.length (mJ l))::Fh s0) k (l.length*aV+l.length*(aV+1))
      (λ r F'=>r= .gs n (fz step s0 l).1.length/\F'=(n,.arr 37 2 (fz step s0 l).1.length (mJ (fz step s0 l).1))::Fh (fz step s0 l).2):=by
  obtain⟨o1,o2⟩:=hd.a1 s0 _ h0.ok;have ok1:∀ kx,k<=kx->SV.ax (λ n=>decide (n<kx)) first=true/\SV.ax (λ n=>decide (n<kx)) cap=true:=λ kx hx=>hd.a1 s0 _ (Hp.bJ hx h0.ok)
  refine slices_DeleteFunc_Lapi_Dot_api_Dot.enter (by simp[SV.ok,SV.ax,o1,o2,hn]) (h0.tc hn _) (by simp) ?_;dsimp only[slices_DeleteFunc_Lapi_Dot_api_Dot.s,Co.M,Co.J,Co.N,Co.F,Co.b8,Co.aB,Co.K,Co.L,Co.Q,Co.W,Co.Y,Co.V,Co.O,Co.I,Co.S];have hx:=EB hd l s0 hl hB hG hI n k hn h0 mz;have hm0:de (dg ((n,Ob.arr 37 2 l.length (mJ l))::Fh s0) ((n,Ob.arr 37 2 l.length (mJ l))::Fh (fq step s0 l).2) (Fh s0)) (Fh (fq step s0 l).2)=(n,Ob.arr 37 2 l.length (mJ l))::Fh (fq step s0 l).2:=
    s9 (uV hd l s0).symm (h0.nd hd _)
  have h1s:jo Fh n k s0 (fq step s0 l).2:=⟨uV hd l s0,zy hd l s0 h0.ok,jM (by rw[uV hd l s0];exact eN h0.no)⟩;refine SW.seq (SW.g0 be Zm aa ?_);refine SW.seq ?_;rcases hi:(fq step s0 l).1 with _|i
  . have hk:=yt hi
    rw[hi] at hx;have hx:aH Tryz.prog slices_IndexFunc_Lapi_Dot_api_Dot.f [.gs n l.length,.fn (.func g) first cap] ((n,.arr 37 2 l.length (mJ l))::Fh s0) k (l.length*aV) (.d (.int .i64 (-1))) ((n,.arr 37 2 l.length (mJ l))::Fh (fq step s0 l).2):=hx
    (refine SW.di be Zm ?_;(repeat (first|refine RW.ro hm0 (h:=?_)|refine RW.skip (h:=?_)|refine RW.op hm0 (h:=?_)|refine RW.dV hm0 (h:=?_)|refine RW.br (h:=?_)|(refine RW.bC (h:=?_);(first|refine aj.mk (hm0) (hs:=(λ _ _ h=>h)) (hc:=hx) (h:=?_)))));refine RW.nil ⟨by kernel_rfl,ak.mk (h:=?_)⟩)
    refine SW.seq (SW.seq (SW.g0 be Zm aa ?_));refine SW.ai rfl (SW.seq (SW.weak id (st1:=⟨[(0,.gs n l.length)],(n,.arr 37 2 l.length (mJ l))::Fh (fq step s0 l).2,k+(l.length*aV+l.length*(aV+1))⟩) (aG.same (by simp) (by simp[aJ,List.lookup,SV.aC,SV.ok];omega) ((h1s.mono (by show k<=k+(l.length*aV+l.length*(aV+1));omega)).tc (by show n<k+(l.length*aV+l.length*(aV+1));omega) _) (aI (h1s.nd hd _))) ?_));refine SW.g0 be Zm aa ?_;refine SW.ret ?_;rw[hk];exact End.mk ((n,.arr 37 2 l.length (mJ l))::Fh (fq step s0 l).2) (h3:=λ _ _ h=>h) (h4:=⟨rfl,rfl⟩) (h5:=by simp[fB,SV.ok];omega) (h6:=(h1s.mono (by omega)).tc (by omega) _)
  . obtain⟨hil,hk⟩:=yu hi
    have hI1:=HW hd l s0 0 hG (by omega) hI i hi;rw[hi] at hx;have hx:aH Tryz.prog slices_IndexFunc_Lapi_Dot_api_Dot.f [.gs n l.length,.fn (.func g) first cap] ((n,.arr 37 2 l.length (mJ l))::Fh s0) k (l.length*aV) (i64 i) ((n,.arr 37 2 l.length (mJ l))::Fh (fq step s0 l).2):=hx;obtain⟨s1,hs1⟩:∃ s1,(fq step s0 l).2=s1:=⟨_,rfl⟩;rw[hs1] at hx hm0 h1s hk hI1
    (refine SW.di be Zm ?_;(repeat (first|refine RW.ro hm0 (h:=?_)|refine RW.skip (h:=?_)|refine RW.op hm0 (h:=?_)|refine RW.dV hm0 (h:=?_)|refine RW.br (h:=?_)|(refine RW.bC (h:=?_);(first|refine aj.mk (hm0) (hs:=(λ _ _ h=>h)) (hc:=hx) (h:=?_)))));refine RW.nil ⟨by kernel_rfl,ak.mk (h:=?_)⟩)
    have hne:((i:Int) == -1)=false:=by rw[beq_eq_false_iff_ne];omega
    refine SW.seq (SW.seq (SW.g0 be Zm hne ?_));refine SW.an rfl (SW.skip ?_);refine(?_:Sl.SW _ _ _ _ _ _);have e1:IntKind.i64.wrap ((i:Int)+1)=((i+1:Nat):Int):=wrap_i64 _ (by omega);refine SW.seq (SW.seq (SW.g0 be Zm e1 ?_));refine SW.block ?_
    let K0:=k+l.length*aV
    let Inv:Nat->Nat->List Dt->σ->Prop:=λ j w cur s=>(j<=l.length/\w<j/\cur.length=l.length)/\cur.drop j=l.drop j/\I j s/\jo Fh n (K0+j*(aV+1)) s0 s/\fz step s0 l=(cur.take w++(fz step s (l.drop j)).1,(fz step s (l.drop j)).2)
    refine SW.loop (α:={x:Nat×Nat×List Dt×σ // Inv x.1 x.2.1 x.2.2.1 x.2.2.2})
      (λ x=>⟨[(6,i64 x.1.1),(5,i64 x.1.2.1),(0,.gs n l.length),(1,.fn (.func g) first cap)],(n,.arr 37 2 l.length (mJ x.1.2.2.1))::Fh x.1.2.2.2,K0+x.1.1*(aV+1)⟩) (λ x=>l.length - x.1.1)
      ⟨(i+1,i,l,s1),⟨by show i+1<=l.length;omega,by show i<i+1;omega,rfl⟩,rfl,by rw[Nat.zero_add] at hI1;exact hI1,h1s.mono (by show k<=k+l.length*aV+_;omega),hk⟩ id ?_ ?_
    . refine aG.same (by show k<=k+l.length*aV+_;omega) (by simp[aJ,List.lookup,SV.aC,SV.bS,SV.ok];exact⟨by show n<k+l.length*aV+_;omega,ok1 _ (by show k<=k+l.length*aV+_;omega)⟩) ((h1s.mono (by show k<=k+l.length*aV+_;omega)).tc (by show n<k+l.length*aV+_;omega) _) (aI (h1s.nd hd _))
    rintro⟨⟨j,w,cur,s⟩,⟨hj,hwj,hcl2⟩,hdr,hIs,hh,he⟩;dsimp only at hj hwj hcl2 hdr hIs hh he ⊢;have hKk:k<=K0+j*(aV+1):=by show k<=k+l.length*aV+_;omega
    obtain⟨K,hK⟩:∃ K,K0+j*(aV+1)=K:=⟨_,rfl⟩;have hK1:K0+(j+1)*(aV+1)=K+1+aV:=by rw[<- hK,Nat.succ_mul];omega
    rw[hK] at hh hKk ⊢
    by_cases h:j<l.length
    . have h1 : decide ((j:Int)<l.length)=true:=by simp only[decide_eq_true_eq];omega
      obtain⟨x,hxl⟩:=aX h;have hxc:cur[j]? =some x:=AE hdr hxl;have e2:IntKind.i64.wrap ((j:Int)+1)=((j+1:Nat):Int):=wrap_i64 _ (by omega);have e3:IntKind.i64.wrap ((w:Int)+1)=((w+1:Nat):Int):=wrap_i64 _ (by omega);have hGx:=hG x (List.mem_of_getElem? hxl);rw[drop_cons hxl] at he;simp only[fz] at he;have hfr:lk (Fh s) K=none:=Hp.out hh.ok (Nat.le_refl _);have hfr':List.lookup K (Fh s)=none:=hfr;have f1:=bX (show K≠n by omega);have hh1:=hh.mono (k':=K+1) (by omega);have hc:=hd.call j s x (K+1) hIs hGx (by omega) hh1.ok;have hs:HSub (Fh s) ((K,.box 37 x.cells)::(n,.arr 37 2 l.length (mJ cur))::Fh s):=lI hfr (lI hh.no λ _ _ h=>h);have oM:(((K,Ob.box 37 x.cells)::(n,Ob.arr 37 2 l.length (mJ cur))::Fh s:Hp).map (·.1)).Nodup:=rU (by rw[af,if_neg (by omega)];exact hfr) (hh.nd hd _);have hm:de (dg ((K,Ob.box 37 x.cells)::(n,Ob.arr 37 2 l.length (mJ cur))::Fh s) (Fh (step s x).1) (Fh s)) (Fh (step s x).1)=(K,Ob.box 37 x.cells)::(n,.arr 37 2 l.length (mJ cur))::Fh (step s x).1:=
        o9 (pre:=[(K,.box 37 x.cells),(n,.arr 37 2 l.length (mJ cur))]) (hd.nm s x).symm oM
      have hh2:jo Fh n (K0+(j+1)*(aV+1)) s0 (step s x).1:=by rw[hK1];exact(hh.next hd x).mono (by omega)
      have hfr2:List.lookup K (Fh (step s x).1)=none:=jM (by rw[hd.nm s x];exact eN hfr);have hdr2:=yd hdr;refine SW.seq (SW.seq (SW.g0 be Zm h1 ?_));refine SW.ai rfl (SW.skip ?_);refine(?_:Sl.SW _ _ _ _ _ _);refine SW.seq (SW.block (SW.seq (SW.g0 be Zm (Zq (jI hxc) (Zq (ng hxc) (Zq hfr' f1))) ?_)));refine SW.seq ?_;rcases hb:(step s x).2 with _|_
      . rw[hb] at hc
        refine SW.g1 be Zm hm (Zq hs hc) ?_;refine SW.ai rfl (SW.seq ?_);have hs1:b_ (List.map SV.d (cur.flatMap Dt.ds)) (w*2) x.cells=List.map SV.d ((cur.set w x).flatMap Dt.ds):=HV x (by omega);have hs2:(w*2+2<=(List.map SV.d (cur.flatMap Dt.ds)).length)=True:=eq_true (by rw[List.length_map,mP,hcl2];omega);refine SW.g0 be Zm (Zq hs1 (Zq hs2 f1)) ?_;refine SW.g0 be Zm e3 ?_;refine SW.g0 be Zm e2 ?_;rw[if_neg (by rw[hb];simp)] at he;refine⟨⟨(j+1,w+1,cur.set w x,(step s x).1),⟨by show j+1<=l.length;omega,by show w+1<j+1;omega,by simp[hcl2]⟩,by rw[set_drop (by omega)];exact hdr2,hd.nx j s x hIs hGx (by omega),hh2,?_⟩,id,by simp;omega,?_⟩
        . rw[he,AD (by omega)];simp
        . exact aG.same (by show k<=k+l.length*aV+_;omega) (by simp [aJ,List.lookup,SV.aC,SV.bS,SV.ok];exact ⟨by show n<k+l.length*aV+_;omega,ok1 _ (by show k<=k+l.length*aV+_;omega)⟩) (hh2.tc (by show n<k+l.length*aV+_;omega) _) (λ y hy=>by
            rw[af,if_neg ?_]
            . exact aI (hh2.nd hd _) y hy
            . intro e
              rcases List.mem_cons.1 hy with rfl|hy
              . dsimp only at e;omega
              . have:=mT (aI (hd.nd _) y hy)
                rw[e] at this;exact eN hfr2 this)
      . rw[hb] at hc
        refine SW.g1 be Zm hm (Zq hs hc) ?_;refine SW.an rfl (SW.skip ?_);refine SW.g0 be Zm e2 ?_;rw [if_pos (by rw [hb])] at he;refine ⟨⟨(j+1,w,cur,(step s x).1),⟨by show j+1<=l.length;omega,by show w<j+1;omega,hcl2⟩,hdr2,hd.nx j s x hIs hGx (by omega),hh2,he⟩,id,by simp;omega,?_⟩;exact aG.same (by show k<=k+l.length*aV+_;omega) (by simp [aJ,List.lookup,SV.aC,SV.bS,SV.ok];exact ⟨by show n<k+l.length*aV+_;omega,ok1 _ (by show k<=k+l.length*aV+_;omega)⟩) (hh2.tc (by show n<k+l.length*aV+_;omega) _) (λ y hy=>by
            rw[af,if_neg ?_]
            . exact aI (hh2.nd hd _) y hy
            . intro e
              rcases List.mem_cons.1 hy with rfl|hy
              . dsimp only at e;omega
              . have:=mT (aI (hd.nd _) y hy)
                rw[e] at this;exact eN hfr2 this)
    . have h1:decide ((j:Int)<l.length)=false:=by simp only[decide_eq_false_iff_not];omega
      have e:j=l.length:=by omega
      rw[e,List.drop_length] at he;simp only[fz,List.append_nil] at he;have hKe:K=k+(l.length*aV+l.length*(aV+1)):=by rw[<- hK,e];show k+l.length*aV+_=_;omega
      rw[e] at h1;refine SW.seq (SW.seq ?_);rw[e];refine SW.g0 be Zm h1 ?_;refine SW.an rfl (SW.exit ?_);refine(?_:Sl.SW _ _ _ _ _ _);have e4:(w*2+(l.length - w)*2<=(List.map SV.d (cur.flatMap Dt.ds)).length)=True:=eq_true (by
        rw[List.length_map,mP,hcl2,<- Nat.add_mul];exact Nat.mul_le_mul_right 2 (by omega))
      refine SW.seq (SW.g0 be Zm e4 ?_);have hz:((Dt.mk 0 0).cells).length=2:=rfl;have hct:=EC cur w (l.length - w) (Dt.mk 0 0).cells hz (by omega);obtain⟨Z,hZ⟩:∃ Z,b_ (mJ cur) (w*2) (List.replicate (l.length - w) (Dt.mk 0 0).cells).flatten=Z:=⟨_,rfl⟩;rw[hZ] at hct;rw[hZ];refine SW.seq (SW.g0 be Zm aa ?_);refine SW.trim (n:=n) (e:=37) (sz:=2) (len:=l.length) (cs:=Z) w (by simp[af]) (by omega) ?_;dsimp only;rw[je,hct,hKe];rw[hKe] at hh;refine SW.ret ?_;rw[he];have hlw:(cur.take w).length=w:=by rw[List.length_take];omega
      exact End.mk ((n,.arr 37 2 w (mJ (cur.take w)))::Fh s) (h3:=λ _ _ h=>h) (h4:=⟨by simp[fB,hlw],by simp[hlw]⟩) (h5:=by simp[fB,SV.ok];omega) (h6:=hh.tc (by omega) _)
include hd in
theorem Cf (l:List Dt)(s0:σ)(hl:l.length<1000000000)(hB:l.length<=B)(hG:∀ x,x∈l->G x)(hI:I 0 s0)(n k:Nat)(hn:n<k)(h0:jo Fh n k s0 s0)(mz:(Fh s0).ok (λ m=>(lk (Fh s0) m).isSome)=true):
  aH Tryz.prog slices_DeleteFunc_Lapi_Dot_api_Dot.f [.gs n l.length,.fn (.func g) first cap] ((n,.arr 37 2 l.length (mJ l))::Fh s0) k (l.length*aV+l.length*(aV+1)) (.gs n (fz step s0 l).1.length)
   ((n,.arr 37 2 (fz step s0 l).1.length (mJ (fz step s0 l).1))::Fh (fz step s0 l).2):=by
 unfold aH;have hq:=y_ (n:=n) (o:= .arr 37 2 l.length (mJ l)) (λ q=>SV.aW _) mz h0.no;have hq0:(Fh s0).ok (λ m=>(lk ((n,Ob.arr 37 2 l.length (mJ l))::Fh s0) m).isSome)=true:=by
  simp only[Hp.ok,List.all_cons,Bool.and_eq_true] at hq ⊢;exact hq.2
 obtain⟨o1,o2⟩:=hd.a1 s0 _ hq0;refine(Ce hd l s0 hl hB hG hI n k hn h0 mz).here (λ m=>(lk ((n,Ob.arr 37 2 l.length (mJ l))::Fh s0) m).isSome) (λ m h e=>by rw[e] at h;cases h) (by simp only[SV.ax,SV.ok,o1,o2,Bool.and_true];simp[af]) hq ?_;rintro x F ⟨rfl,rfl⟩ _ _;refine⟨by simp[SV.ok,af],?_⟩;have:=A4 hd l s0 hq0;exact aA (by simp[af]) (SV.aW _) (Hp.eA (λ m hm=>by rw[hm];rfl) this)
end
end Go.Proofs.YtaelhkkjgfobhaaGreat
namespace Go.Proofs.YtaelhkkjgfobhaaGreat
open Go.Sl Go.Proofs Go.Sort
attribute [local irreducible] SW RW aH SC aj ak
abbrev uz (L:List Dt)(n:Nat):Ob:= .arr 37 2 L.length ((L.flatMap Dt.ds).map .d)
end Go.Proofs.YtaelhkkjgfobhaaGreat
namespace Go.Proofs.YtaelhkkjgfobhaaGreat
open Go.Sl Go.Proofs
section
def kv (n:Nat):SV:= .d (.int .u8 n)
theorem kJ (L:MM Dt Nat)(a:Dt):fG (au Dt.cells kv L) (.d (.int .u8 0)) (MM.idx L a)= .d (.int .u8 (((MM.get L a).getD 0:Nat):Int)):=jd (vs:=kv) 0 L a
theorem zz (L:MM Dt Nat)(c:Nat)(a:Dt)(n:Nat):kA (au Dt.cells kv L) c (.agg a.cells) (.d (.int .u8 (n:Int))) (MM.idx L a)= .map (au Dt.cells kv (MM.put L c a n)) (MM.jy L c a):=jJ (vs:=kv) L c a n
theorem fP (ρ:Nat->Nat)(L:MM Dt Nat):(au Dt.cells kv L).map (λ e=>(e.1,e.2.1.aC ρ,e.2.2.aC ρ))=au Dt.cells kv L:=lD ρ L (λ a=>Dt.aq a ρ) (λ _=>rfl)
theorem dH (q:Nat->Bool)(L:MM Dt Nat):((au Dt.cells kv L).all λ e=>e.2.1.ok q && e.2.2.ok q)=true:=nQ q L (λ a=>Dt.ah a q) (λ _=>rfl)
structure KM where
 m:MM Dt Nat
 c:Nat
def KM.put (K:KM)(d:Dt)(n:Nat):KM:=⟨MM.put K.m K.c d n,MM.jy K.m K.c d⟩
def KM.get (K:KM)(d:Dt):Nat:=(MM.get K.m d).getD 0
theorem KM.dP (K:KM)(d e:Dt)(n:Nat):(K.put d n).get e=if e=d then n else K.get e:=by
 unfold KM.put KM.get;rw[MM.dP]
 split<;>rfl
section
variable (QF:Dt->Bool) (jm:Dt->List Dt)
variable {QF jm} {lv:Dt->Nat} (hlv:∀ d t,t∈jm d->lv t<lv d)
include hlv
variable {N:Nat} (hN:∀ d,lv d<N)
include hN
end
end
section
attribute [local irreducible] SW RW aH SC aj ak js sG
def QG (st:ay)(s x m:Nat):List SV:= .ptr s 0:: .ptr x 0::(st.cells++[.mp m])
abbrev fT (S:Sh):Hp:=[(6,.box 117 [.ptr 10 0,.mp 7,.mp 8,.mp 9]),(7,.map (au Dt.cells ov S.ops) S.co),(8,.map (au Dt.cells iv S.iL) S.ca),(9,.map (au Dt.cells dv S.oS) S.cl),(10,.box 166 [.mp 11,.mp 12]),(11,.map (au Dt.cells cv S.tr) S.ct),(12,.map (au Dt.cells ov S.md) S.cm)]
abbrev fH (S:Sh)(X:Ix)(st:ay)(K:KM):Hp:=(0,.box 134 (QG st 6 2 1))::(1,.map (au Dt.cells kv K.m) K.c)::(2,.box 110 [.any,.mp 3,.mp 4,.mp 5])::(3,.map (au Dt.cells ov X.ops) X.co)::(4,.map (au Dt.cells dn X.ch) X.cc)::(5,.map (au Dt.cells dn X.me) X.cf)::fT S
def Ix.kr (X:Ix)(d:Dt):List Dt:=if MM.has X.ops d then Dt.set (X.jm (X.op d)) else []
end
end Go.Proofs.YtaelhkkjgfobhaaGreat
namespace Go.Proofs.YtaelhkkjgfobhaaGreat
open Go.Sl Go.Proofs
section
structure IM where
 m:MM Dt Int
 c:Nat
inductive Reach (jm:Dt->List Dt):Dt->Dt->Prop
 | refl (d:Dt):Reach jm d d
 | step {d t e:Dt} (ht:t∈jm d) (h:Reach jm t e):Reach jm d e
section
variable (jm:Dt->List Dt)
variable {jm}
variable {lv:Dt->Nat} (hlv:∀ d t,t∈jm d->lv t<lv d)
include hlv
end
end
section
attribute [local irreducible] SW RW aH SC aj ak js sG
abbrev wH (S:Sh)(X:Ix)(st:ay)(K:KM)(M:IM):Hp:=(13,.map (au Dt.cells iv M.m) M.c)::fH S X st K
abbrev wB (S:Sh)(X:Ix)(st:ay)(K:KM)(M:IM)(d:Dt):Hp:=(14,.box 37 d.cells)::wH S X st K M
end
section
attribute [local irreducible] SW RW aH SC aj ak
structure PV {σ:Type}(P:Program)(g:Nat)(first cap:List SV)(Fh:σ->Hp)(nx:σ->Dt->σ)(p:Dt->Bool)(aV:Nat)(inv:σ->Prop):Prop where
 nd:∀ s,((Fh s).map (·.1)).Nodup
 nm:∀ s s',(Fh s').map (·.1)=(Fh s).map (·.1)
 step:∀ s x,inv s->inv (nx s x)
 ok:∀ s x q,(Fh s).ok q=true->(Fh (nx s x)).ok q=true
 call:∀ s x k,inv s->(Fh s).ok (λ n=>decide (n<k))=true->aH P g (first++[.agg x.cells]++cap) (Fh s) k aV (bl (p x)) (Fh (nx s x))
 a1:∀ s q,(Fh s).ok q=true->SV.ax q first=true/\SV.ax q cap=true
 cl:∀ s,(Fh s).ok (λ m=>(lk (Fh s) m).isSome)=true
section
variable {σ:Type} {g:Nat} {first cap:List SV} {Fh:σ->Hp} {nx:σ->Dt->σ} {p:Dt->Bool} {aV:Nat} {inv:σ->Prop}
variable (hI:PV Tryz.prog g first cap Fh nx p aV inv)
include hI
end
end
section
attribute [local irreducible] SW RW aH SC aj ak js sG
abbrev lN (l:List ag):Prop:=∀ o,o∈l->o.kind<256/\o.mC/\o.cl.length<=1048576
end
end Go.Proofs.YtaelhkkjgfobhaaGreat
