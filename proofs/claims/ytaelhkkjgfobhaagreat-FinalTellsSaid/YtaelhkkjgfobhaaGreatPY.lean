/-
 Rows of dots: what a function finds; what it strikes.
-/
import Derived.Test.YtaelhkkjgfobhaaGreatP6
import Derived.Test.YtaelhkkjgfobhaaGreatPA
import Derived.Test.YtaelhkkjgfobhaaGreatPV
import Derived.Test.YtaelhkkjgfobhaaGreatPN
import Derived.Test.YtaelhkkjgfobhaaGreatPQ
import Derived.Test.YtaelhkkjgfobhaaGreatPS
set_option linter.unusedSectionVars false
set_option linter.unusedVariables false
set_option linter.unusedSimpArgs false
namespace Go.Proofs.YtaelhkkjgfobhaaGreat
open Go.Sl Go.Proofs
abbrev l_ (l:List Dt):List SV:=List.map SV.d (l.flatMap Dt.ds)
theorem sN {l:List Dt}{i:Nat}{x:Dt}(h:l[i]? =some x):(i*2+2≤(List.map SV.d (l.flatMap Dt.ds)).length)=True:=eq_true (by
 rw [List.length_map,kO,← Nat.succ_mul];exact Nat.mul_le_mul_right 2 (iV h))
theorem Gp {l:List Dt}{i:Nat}(x:Dt)(h:i<l.length):cN (List.map SV.d (l.flatMap Dt.ds)) (i*2) x.cells=List.map SV.d ((l.set i x).flatMap Dt.ds):=Bs Dt.ds 2 (by omega) (fun _=>rfl) l i x h
section
variable {σ:Type}
def dQ (step:σ→Dt→σ×Bool):σ→List Dt→Option Nat×σ
 | s,[]=>(none,s)
 | s,x::l=>if (step s x).2 then (some 0,(step s x).1) else ((dQ step (step s x).1 l).1.map (· +1),(dQ step (step s x).1 l).2)
def eP (step:σ→Dt→σ×Bool):σ→List Dt→List Dt×σ
 | s,[]=>([],s)
 | s,x::l=>(if (step s x).2 then (eP step (step s x).1 l).1 else x::(eP step (step s x).1 l).1,(eP step (step s x).1 l).2)
theorem Df (step:σ→Dt→σ×Bool):∀ (l:List Dt) (s:σ),(eP step s l).1.length≤l.length
 | [],s=>Nat.le_refl _
 | x::l,s=>by
  have:=Df step l (step s x).1;simp only [eP]
  split <;> simp <;> omega
theorem wV {step:σ→Dt→σ×Bool}:∀ {l:List Dt} {s:σ},(dQ step s l).1=none→eP step s l=(l,(dQ step s l).2)
 | [],s,_=>rfl
 | x ::l,s,h=>by
  simp only [dQ] at h ⊢
  by_cases e:(step s x).2=true
  ·rw [if_pos e] at h;cases h
  ·rw [if_neg e] at h ⊢
   have h2:(dQ step (step s x).1 l).1=none:=by
    cases hh:(dQ step (step s x).1 l).1 with
    | none=>rfl
    | some i=>rw [hh] at h;cases h
   simp only [eP];rw [wV h2,if_neg e]
theorem wW {step:σ→Dt→σ×Bool}:∀ {l:List Dt} {s:σ} {i:Nat},(dQ step s l).1=some i→i<l.length∧eP step s l=(l.take i++(eP step (dQ step s l).2 (l.drop (i+1))).1,(eP step (dQ step s l).2 (l.drop (i+1))).2)
 | [],s,i,h=>by cases h
 | x ::l,s,i,h=>by
  simp only [dQ] at h ⊢
  by_cases e:(step s x).2=true
  ·rw [if_pos e] at h ⊢
   injection h with h;subst h;simp [eP,e]
  ·rw [if_neg e] at h ⊢
   cases hh:(dQ step (step s x).1 l).1 with
   | none=>rw [hh] at h;cases h
   | some j=>
    rw [hh] at h;injection h with h;dsimp only at h;subst h;obtain ⟨h1,h2⟩:=wW hh;refine ⟨by simp;omega,?_⟩;simp only [eP];rw [h2,if_neg e];simp
structure sO (P:Program)(g:Nat)(first cap:List SV)(Fh:σ→Hp)(step:σ→Dt→σ×Bool)(aQ:Nat)(I:Nat→σ→Prop)(G:Dt→Prop)(B:Nat):Prop where
 nd:∀ s,((Fh s).map (·.1)).Nodup
 nm:∀ s x,(Fh (step s x).1).map (·.1)=(Fh s).map (·.1)
 nx:∀ i s x,I i s→G x→i<B→I (i+1) (step s x).1
 ok:∀ s x q,(Fh s).ok q=true→(Fh (step s x).1).ok q=true
 call:∀ i s x k,I i s→G x→i<B→(Fh s).ok (fun n=>decide (n<k))=true→aF P g (first++[.agg x.cells]++cap) (Fh s) k aQ (bl (step s x).2) (Fh (step s x).1)
 a1:∀ s q,(Fh s).ok q=true→SV.ax q first=true∧SV.ax q cap=true
end
section
attribute [local irreducible] SW RW aF SC ai aq
variable {σ:Type} {g:Nat} {first cap:List SV} {Fh:σ→Hp} {step:σ→Dt→σ×Bool} {aQ:Nat} {I:Nat→σ→Prop} {G:Dt→Prop} {B:Nat}
structure ji (Fh:σ→Hp)(n k:Nat)(s0 s:σ):Prop where
 nm:(Fh s).map (·.1)=(Fh s0).map (·.1)
 ok:(Fh s).ok (fun n=>decide (n<k))=true
 no:lk (Fh s) n=none
theorem ji.mono {n k k':Nat}{s0 s:σ}(h:ji Fh n k s0 s)(hk:k≤k'):ji Fh n k' s0 s:=⟨h.nm,Hp.bB hk h.ok,h.no⟩
theorem ji.next (hd:sO Tryz.prog g first cap Fh step aQ I G B){n k:Nat}{s0 s:σ}(h:ji Fh n k s0 s)(x:Dt):ji Fh n k s0 (step s x).1:=
 ⟨(hd.nm s x).trans h.nm,hd.ok s x _ h.ok,iN (by rw [hd.nm s x];exact d_ h.no)⟩
theorem ji.sE {n k:Nat}{s0 s:σ}(h:ji Fh n k s0 s)(hn:n<k){e sz len:Nat}(ds:List DV):Hp.ok (fun n=>decide (n<k)) ((n,.arr e sz len (ds.map SV.d))::Fh s)=true:=an (by simpa using hn) (SV.br _) h.ok
theorem ji.nd (hd:sO Tryz.prog g first cap Fh step aQ I G B){n k:Nat}{s0 s:σ}(h:ji Fh n k s0 s)(o:Ob):(((n,o)::Fh s:Hp).map (·.1)).Nodup:=jN h.no (hd.nd s)
variable (hd:sO Tryz.prog g first cap Fh step aQ I G B)
include hd in
set_option maxHeartbeats 1000000 in
theorem Dg (l:List Dt)(s0:σ)(hl:l.length<1000000000)(hB:l.length≤B)(hG:∀ x,x∈l→G x)(hI:I 0 s0)(n k:Nat)(hn:n<k)(h0:ji Fh n k s0 s0):
  SB Tryz.prog slices_IndexFunc_Lapi_Dot_api_Dot.f [.gs n l.length,.fn (.func g) first cap] ((n,.arr 37 2 l.length (l_ l))::Fh s0) k (l.length*aQ)
   (fun r F'=>r=xG (dQ step s0 l).1∧F'=(n,.arr 37 2 l.length (l_ l))::Fh (dQ step s0 l).2):=by
 obtain ⟨o1,o2⟩:=hd.a1 s0 _ h0.ok;refine slices_IndexFunc_Lapi_Dot_api_Dot.enter (by simp [SV.ok,SV.ax,o1,o2,hn]) (h0.sE hn _) (by simp) ?_;dsimp only [slices_IndexFunc_Lapi_Dot_api_Dot.s,Co.M,Co.J,Co.F,Co.Z,Co.K,Co.L,Co.Y,Co.V,Co.I,Co.S];refine SW.seq ?_;refine SW.g0 [0,1,4,5,7,8,9,16] mixed af ?_;refine SW.seq (SW.seq ?_);refine SW.g0 [0,1,4,5,7,8,9,16] mixed af ?_;refine SW.block ?_
 refine SW.loop (α:={x:Nat×σ // x.1≤l.length∧I x.1 x.2∧ji Fh n (k+x.1*aQ) s0 x.2∧dQ step s0 l=((dQ step x.2 (l.drop x.1)).1.map (· +x.1),(dQ step x.2 (l.drop x.1)).2)})
  (fun x=>⟨[(8,i64 x.1.1),(7,i64 l.length),(0,.gs n l.length),(1,.fn (.func g) first cap)],(n,.arr 37 2 l.length (l_ l))::Fh x.1.2,k+x.1.1*aQ⟩) (fun x=>l.length - x.1.1)
  ⟨(0,s0),by omega,hI,by simpa using h0,by simp⟩ id ?_ ?_
 ·exact aK.same (by simp) (by simp [bp,List.lookup,SV.aC,SV.bV,SV.ok,o1,o2,hn]) (by simpa using h0.sE hn _) (aG (h0.nd hd _))
 rintro ⟨⟨i,s⟩,hi,hIs,hh,he⟩;dsimp only at hi hIs hh he ⊢;have hkk:k≤k+i*aQ:=by omega
 by_cases h:i<l.length
 ·have h1:decide ((i:Int)<l.length)=true:=by simp only [decide_eq_true_eq];omega
  obtain ⟨x,hx⟩:=aZ h;have hdr:l.drop i=x::l.drop (i+1):=by
   rw [List.drop_eq_getElem_cons h];rw [List.getElem?_eq_getElem h] at hx;injection hx with hx;rw [hx]
  have e2:IntKind.i64.wrap ((i:Int)+1)=((i+1:Nat):Int):=wrap_i64 _ (by omega);have hc:=hd.call i s x (k+i*aQ) hIs (hG x (List.mem_of_getElem? hx)) (by omega) hh.ok;have hs:HSub (Fh s) ((n,.arr 37 2 l.length (l_ l))::Fh s):=ir hh.no fun _ _ h=>h
  have hm:bZ (b_ ((n,Ob.arr 37 2 l.length (l_ l))::Fh s) (Fh (step s x).1) (Fh s)) (Fh (step s x).1)=(n,.arr 37 2 l.length (l_ l))::Fh (step s x).1:=
   k9 (pre:=[(n,.arr 37 2 l.length (l_ l))]) (hd.nm s x).symm (hh.nd hd _)
  have hh2:=(hh.next hd x).mono (k':=k+i*aQ+aQ) (by omega);have hk2:k+i*aQ+aQ=k+(i+1)*aQ:=by rw [Nat.succ_mul];omega
  rw [hdr] at he;simp only [dQ] at he;refine SW.seq ?_;refine SW.g0 [0,1,4,5,7,8,9,16] mixed (h1) ?_;refine SW.seq (SW.aj rfl (SW.skip ?_));refine (?_:Sl.SW _ _ _ _ _ _);refine SW.seq (SW.block (SW.seq ?_));refine SW.g0 [0,1,4,5,7,8,9,16] mixed af ?_;refine SW.seq ?_;rcases hb:(step s x).2 with _ | _
  ·rw [hb] at hc
   refine SW.g1 [0,1,4,5,7,8,9,16] mixed (And.intro (bW hx) (And.intro (sN hx) (hm))) (And.intro hs hc) ?_;refine SW.ah rfl (SW.skip ?_);refine SW.g0 [0,1,4,5,7,8,9,16] mixed (e2) ?_;rw [if_neg (by rw [hb];simp)] at he;have hh3:ji Fh n (k+(i+1)*aQ) s0 (step s x).1:=by rw [← hk2];exact hh2
   refine ⟨⟨(i+1,(step s x).1),by dsimp only;omega,hd.nx i s x hIs (hG x (List.mem_of_getElem? hx)) (by omega),hh3,?_⟩,id,by simp;omega,?_⟩
   ·rw [he]
    simp only [Option.map_map]
    congr 2
    funext j
    simp only [Function.comp];omega
   ·exact aK.same (by simp) (by simp [bp,List.lookup,SV.aC,SV.bV,SV.ok];exact ⟨by omega,(hd.a1 s0 _ (Hp.bB (by omega) h0.ok)).1,(hd.a1 s0 _ (Hp.bB (by omega) h0.ok)).2⟩) (hh3.sE (by omega) _) (aG (hh3.nd hd _))
  ·rw [hb] at hc
   refine SW.g1 [0,1,4,5,7,8,9,16] mixed (And.intro (bW hx) (And.intro (sN hx) (hm))) (And.intro hs hc) ?_;refine SW.aj rfl (SW.seq ?_);have:k+i*aQ+aQ≤k+l.length*aQ:=by
    have:=Nat.mul_le_mul_right aQ (show i+1≤l.length by omega);omega
   refine SW.weak id (st1:=⟨[(5,i64 i)],(n,.arr 37 2 l.length (l_ l))::Fh (step s x).1,k+l.length*aQ⟩) (aK.same (by simp) (by simp [bp,List.lookup,SV.aC,SV.ok]) ((hh2.mono this).sE (by omega) _) (aG (hh2.nd hd _))) ?_;refine SW.g0 [0,1,4,5,7,8,9,16] mixed af ?_;rw [if_pos (by rw [hb])] at he;refine SW.ret ?_;rw [he];exact End.mk ((n,.arr 37 2 l.length (l_ l))::Fh (step s x).1) (h3:=fun _ _ h=>h) (h4:=⟨by simp [eH,xG],rfl⟩) (h6:=(hh2.mono this).sE (by omega) _)
 ·have h1:decide ((i:Int)<l.length)=false:=by simp only [decide_eq_false_iff_not];omega
  have e:i=l.length:=by omega
  subst e;rw [List.drop_length] at he;refine SW.seq ?_;refine SW.g0 [0,1,4,5,7,8,9,16] mixed (h1) ?_;refine SW.seq (SW.ah rfl (SW.exit ?_));refine (?_:Sl.SW _ _ _ _ _ _);refine SW.seq ?_;refine SW.g0 [0,1,4,5,7,8,9,16] mixed af ?_;refine SW.ret ?_;rw [he];exact End.mk ((n,.arr 37 2 l.length (l_ l))::Fh s) (h3:=fun _ _ h=>h) (h4:=⟨rfl,rfl⟩) (h6:=(hh.mono (by omega)).sE (by omega) _)
include hd in
theorem yd {q:Nat→Bool}:∀ (l:List Dt) (s:σ),(Fh s).ok q=true→(Fh (dQ step s l).2).ok q=true
 | [],s,h=>h
 | x::l,s,h=>by
  simp only [dQ]
  split
  ·exact hd.ok s x q h
  ·exact yd l _ (hd.ok s x q h)
include hd in
theorem vb {q:Nat→Bool}:∀ (l:List Dt) (s:σ),(Fh s).ok q=true→(Fh (eP step s l).2).ok q=true
 | [],s,h=>h
 | x::l,s,h=>vb l _ (hd.ok s x q h)
include hd in
theorem tN:∀ (l:List Dt) (s:σ),(Fh (dQ step s l).2).map (·.1)=(Fh s).map (·.1)
 | [],s=>rfl
 | x::l,s=>by
  simp only [dQ]
  split
  ·exact hd.nm s x
  ·exact (tN l _).trans (hd.nm s x)
include hd in
theorem Gq:∀ (l:List Dt) (s:σ) (i:Nat),(∀ x,x∈l→G x)→i+l.length≤B→I i s→∀ j,(dQ step s l).1=some j→I (i+j+1) (dQ step s l).2
 | [],s,i,_,_,_,j,h=>by cases h
 | x ::l,s,i,hG,hB,hi,j,h=>by
  simp only [List.length_cons] at hB;simp only [dQ] at h ⊢
  by_cases e:(step s x).2=true
  ·rw [if_pos e] at h ⊢
   injection h with h;subst h;exact hd.nx i s x hi (hG x (by simp)) (by omega)
  ·rw [if_neg e] at h ⊢
   cases hh:(dQ step (step s x).1 l).1 with
   | none=>rw [hh] at h;cases h
   | some q=>
    rw [hh] at h;injection h with h;dsimp only at h;subst h;have:=Gq l (step s x).1 (i+1) (fun y hy=>hG y (List.mem_cons_of_mem _ hy)) (by omega) (hd.nx i s x hi (hG x (by simp)) (by omega)) q hh
    rwa [show i+(q+1)+1=i+1+q+1 by omega]
include hd in
theorem wX (l:List Dt)(s0:σ)(hl:l.length<1000000000)(hB:l.length≤B)(hG:∀ x,x∈l→G x)(hI:I 0 s0)(n k:Nat)(hn:n<k)(h0:ji Fh n k s0 s0)(lJ:(Fh s0).ok (fun m=>(lk (Fh s0) m).isSome)=true):
  aF Tryz.prog slices_IndexFunc_Lapi_Dot_api_Dot.f [.gs n l.length,.fn (.func g) first cap] ((n,.arr 37 2 l.length (l_ l))::Fh s0) k (l.length*aQ) (xG (dQ step s0 l).1) ((n,.arr 37 2 l.length (l_ l))::Fh (dQ step s0 l).2):=by
 unfold aF;have hq:=xI (n:=n) (o:= .arr 37 2 l.length (l_ l)) (fun q=>SV.br _) lJ h0.no;have hq0:(Fh s0).ok (fun m=>(lk ((n,Ob.arr 37 2 l.length (l_ l))::Fh s0) m).isSome)=true:=by
  simp only [Hp.ok,List.all_cons,Bool.and_eq_true] at hq ⊢;exact hq.2
 obtain ⟨o1,o2⟩:=hd.a1 s0 _ hq0;refine (Dg hd l s0 hl hB hG hI n k hn h0).here (fun m=>(lk ((n,Ob.arr 37 2 l.length (l_ l))::Fh s0) m).isSome) (fun m h e=>by rw [e] at h;cases h) (by simp only [SV.ax,SV.ok,o1,o2,Bool.and_true];simp [aa]) hq ?_;rintro x F ⟨rfl,rfl⟩ _ _;refine ⟨by unfold xG;split <;> rfl,?_⟩;have:=yd hd l s0 hq0;exact an (by simp [aa]) (SV.br _) (Hp.ez (fun m hm=>by rw [hm];rfl) this)
end
theorem Dh (cur:List Dt)(w m:Nat)(z:List SV)(hz:z.length=2)(hw:w+m=cur.length):(cN (l_ cur) (w*2) ((List.replicate m z).flatten)).take (w*2)=l_ (cur.take w):=by
 have hl:((List.replicate m z).flatten).length=m*2:=by simp [hz]
 have hc:(l_ cur).length=cur.length*2:=by rw [List.length_map,kO]
 rw [qf (by rw [hl,hc,← hw,Nat.add_mul];exact Nat.le_refl _),List.append_assoc,List.take_append_of_le_length (by rw [List.length_take,hc,← hw,Nat.add_mul];omega),List.take_of_length_le (by rw [List.length_take];omega)];show ((cur.flatMap Dt.ds).map SV.d).take (w*2)=_;rw [← List.map_take]
 congr 1
 conv=>lhs;rw [← List.take_append_drop w cur]
 rw [List.flatMap_append,List.take_append_of_le_length,List.take_of_length_le]
 ·rw [kO,List.length_take];exact Nat.mul_le_mul_right 2 (Nat.min_le_left _ _)
 ·rw [kO,List.length_take,Nat.min_eq_left (by omega)];exact Nat.le_refl _
section
attribute [local irreducible] SW RW aF SC ai aq
variable {σ:Type} {g:Nat} {first cap:List SV} {Fh:σ→Hp} {step:σ→Dt→σ×Bool} {aQ:Nat} {I:Nat→σ→Prop} {G:Dt→Prop} {B:Nat}
variable (hd:sO Tryz.prog g first cap Fh step aQ I G B)
include hd in
set_option maxHeartbeats 4000000 in
theorem A1 (l : List Dt)(s0:σ)(hl:l.length<1000000000)(hB:l.length≤B)(hG:∀ x,x∈l→G x)(hI:I 0 s0)(n k:Nat)(hn:n<k)(h0:ji Fh n k s0 s0)(lJ:(Fh s0).ok (fun m=>(lk (Fh s0) m).isSome)=true):
    SB Tryz.prog slices_DeleteFunc_Lapi_Dot_api_Dot.f [.gs n l.length,.fn (.func g) first cap] ((n,.arr 37 2 l.length (l_ l))::Fh s0) k (l.length*aQ+l.length*(aQ+1))
      (fun r F'=>r= .gs n (eP step s0 l).1.length∧F'=(n,.arr 37 2 (eP step s0 l).1.length (l_ (eP step s0 l).1))::Fh (eP step s0 l).2):=by
  obtain ⟨o1,o2⟩:=hd.a1 s0 _ h0.ok;have ok1:∀ kx,k≤kx→SV.ax (fun n=>decide (n<kx)) first=true∧SV.ax (fun n=>decide (n<kx)) cap=true:=fun kx hx=>hd.a1 s0 _ (Hp.bB hx h0.ok)
  refine slices_DeleteFunc_Lapi_Dot_api_Dot.enter (by simp [SV.ok,SV.ax,o1,o2,hn]) (h0.sE hn _) (by simp) ?_;dsimp only [slices_DeleteFunc_Lapi_Dot_api_Dot.s,Co.M,Co.J,Co.N,Co.F,Co.b8,Co.av,Co.K,Co.L,Co.Q,Co.W,Co.Y,Co.V,Co.O,Co.I,Co.S];have hx:=wX hd l s0 hl hB hG hI n k hn h0 lJ;have hm0:bZ (b_ ((n,Ob.arr 37 2 l.length (l_ l))::Fh s0) ((n,Ob.arr 37 2 l.length (l_ l))::Fh (dQ step s0 l).2) (Fh s0)) (Fh (dQ step s0 l).2)=(n,Ob.arr 37 2 l.length (l_ l))::Fh (dQ step s0 l).2:=
    sD (tN hd l s0).symm (h0.nd hd _)
  have h1s:ji Fh n k s0 (dQ step s0 l).2:=⟨tN hd l s0,yd hd l s0 h0.ok,iN (by rw [tN hd l s0];exact d_ h0.no)⟩;refine SW.seq ?_;refine SW.g0 [0,1,4,5,6,7,12,19,29] mixed af ?_;refine SW.seq ?_;rcases hi:(dQ step s0 l).1 with _ | i
  · have hk:=wV hi
    rw [hi] at hx;have hx:aF Tryz.prog slices_IndexFunc_Lapi_Dot_api_Dot.f [.gs n l.length,.fn (.func g) first cap] ((n,.arr 37 2 l.length (l_ l))::Fh s0) k (l.length*aQ) (.d (.int .i64 (-1))) ((n,.arr 37 2 l.length (l_ l))::Fh (dQ step s0 l).2):=hx
    (refine SW.bT [0,1,4,5,6,7,12,19,29] mixed ?_;(repeat (first | refine RW.ro (hm0) (h:= ?_) | refine RW.skip (h:= ?_) | refine RW.op (hm0) (h:= ?_) | refine RW.dD (hm0) (h:= ?_) | refine RW.aY (h:= ?_) | (refine RW.aM (h:= ?_);(first | refine ai.mk (hm0) (hs:=(fun _ _ h=>h)) (hc:=hx) (h:= ?_)))));refine RW.nil ⟨by kernel_rfl,aq.mk (h:= ?_)⟩)
    refine SW.seq (SW.seq ?_);refine SW.g0 [0,1,4,5,6,7,12,19,29] mixed af ?_;refine SW.aj rfl (SW.seq ?_);refine SW.weak id (st1:=⟨[(0,.gs n l.length)],(n,.arr 37 2 l.length (l_ l))::Fh (dQ step s0 l).2,k+(l.length*aQ+l.length*(aQ+1))⟩) (aK.same (by simp) (by simp [bp,List.lookup,SV.aC,SV.ok];omega) ((h1s.mono (by show k≤k+(l.length*aQ+l.length*(aQ+1));omega)).sE (by show n<k+(l.length*aQ+l.length*(aQ+1));omega) _) (aG (h1s.nd hd _))) ?_;refine SW.g0 [0,1,4,5,6,7,12,19,29] mixed af ?_;refine SW.ret ?_;rw [hk];exact End.mk ((n,.arr 37 2 l.length (l_ l))::Fh (dQ step s0 l).2) (h3:=fun _ _ h=>h) (h4:=⟨rfl,rfl⟩) (h5:=by simp [eH,SV.ok];omega) (h6:=(h1s.mono (by omega)).sE (by omega) _)
  · obtain ⟨hil,hk⟩:=wW hi
    have hI1:=Gq hd l s0 0 hG (by omega) hI i hi;rw [hi] at hx;have hx:aF Tryz.prog slices_IndexFunc_Lapi_Dot_api_Dot.f [.gs n l.length,.fn (.func g) first cap] ((n,.arr 37 2 l.length (l_ l))::Fh s0) k (l.length*aQ) (i64 i) ((n,.arr 37 2 l.length (l_ l))::Fh (dQ step s0 l).2):=hx;obtain ⟨s1,hs1⟩:∃ s1,(dQ step s0 l).2=s1:=⟨_,rfl⟩;rw [hs1] at hx hm0 h1s hk hI1
    (refine SW.bT [0,1,4,5,6,7,12,19,29] mixed ?_;(repeat (first | refine RW.ro (hm0) (h:= ?_) | refine RW.skip (h:= ?_) | refine RW.op (hm0) (h:= ?_) | refine RW.dD (hm0) (h:= ?_) | refine RW.aY (h:= ?_) | (refine RW.aM (h:= ?_);(first | refine ai.mk (hm0) (hs:=(fun _ _ h=>h)) (hc:=hx) (h:= ?_)))));refine RW.nil ⟨by kernel_rfl,aq.mk (h:= ?_)⟩)
    have hne:((i:Int) == -1)=false:=by rw [beq_eq_false_iff_ne];omega
    refine SW.seq (SW.seq ?_);refine SW.g0 [0,1,4,5,6,7,12,19,29] mixed (hne) ?_;refine SW.ah rfl (SW.skip ?_);refine (?_:Sl.SW _ _ _ _ _ _);have e1:IntKind.i64.wrap ((i:Int)+1)=((i+1:Nat):Int):=wrap_i64 _ (by omega);refine SW.seq (SW.seq ?_);refine SW.g0 [0,1,4,5,6,7,12,19,29] mixed (e1) ?_;refine SW.block ?_
    let K0:=k+l.length*aQ
    let Inv:Nat→Nat→List Dt→σ→Prop:=fun j w cur s=>(j≤l.length∧w<j∧cur.length=l.length)∧cur.drop j=l.drop j∧I j s∧ji Fh n (K0+j*(aQ+1)) s0 s∧eP step s0 l=(cur.take w++(eP step s (l.drop j)).1,(eP step s (l.drop j)).2)
    refine SW.loop (α:={x:Nat×Nat×List Dt×σ // Inv x.1 x.2.1 x.2.2.1 x.2.2.2})
      (fun x=>⟨[(6,i64 x.1.1),(5,i64 x.1.2.1),(0,.gs n l.length),(1,.fn (.func g) first cap)],(n,.arr 37 2 l.length (l_ x.1.2.2.1))::Fh x.1.2.2.2,K0+x.1.1*(aQ+1)⟩) (fun x=>l.length - x.1.1)
      ⟨(i+1,i,l,s1),⟨by show i+1≤l.length;omega,by show i<i+1;omega,rfl⟩,rfl,by rw [Nat.zero_add] at hI1;exact hI1,h1s.mono (by show k≤k+l.length*aQ+_;omega),hk⟩ id ?_ ?_
    · refine aK.same (by show k≤k+l.length*aQ+_;omega) (by simp [bp,List.lookup,SV.aC,SV.bV,SV.ok];exact ⟨by show n<k+l.length*aQ+_;omega,ok1 _ (by show k≤k+l.length*aQ+_;omega)⟩) ((h1s.mono (by show k≤k+l.length*aQ+_;omega)).sE (by show n<k+l.length*aQ+_;omega) _) (aG (h1s.nd hd _))
    rintro ⟨⟨j,w,cur,s⟩,⟨hj,hwj,hcl2⟩,hdr,hIs,hh,he⟩;dsimp only at hj hwj hcl2 hdr hIs hh he ⊢;have hKk:k≤K0+j*(aQ+1):=by show k≤k+l.length*aQ+_;omega
    obtain ⟨K,hK⟩:∃ K,K0+j*(aQ+1)=K:=⟨_,rfl⟩;have hK1:K0+(j+1)*(aQ+1)=K+1+aQ:=by rw [← hK,Nat.succ_mul];omega
    rw [hK] at hh hKk ⊢
    by_cases h:j<l.length
    · have h1 : decide ((j:Int)<l.length)=true:=by simp only [decide_eq_true_eq];omega
      obtain ⟨x,hxl⟩:=aZ h;have hxc:cur[j]? =some x:=y2 hdr hxl;have e2:IntKind.i64.wrap ((j:Int)+1)=((j+1:Nat):Int):=wrap_i64 _ (by omega);have e3:IntKind.i64.wrap ((w:Int)+1)=((w+1:Nat):Int):=wrap_i64 _ (by omega);have hGx:=hG x (List.mem_of_getElem? hxl);rw [drop_cons hxl] at he;simp only [eP] at he;have hfr:lk (Fh s) K=none:=Hp.out hh.ok (Nat.le_refl _);have hfr':List.lookup K (Fh s)=none:=hfr;have f1:=cQ (show K≠n by omega);have hh1:=hh.mono (k':=K+1) (by omega);have hc:=hd.call j s x (K+1) hIs hGx (by omega) hh1.ok;have hs:HSub (Fh s) ((K,.box 37 x.cells)::(n,.arr 37 2 l.length (l_ cur))::Fh s):=ir hfr (ir hh.no fun _ _ h=>h);have n9:(((K,Ob.box 37 x.cells)::(n,Ob.arr 37 2 l.length (l_ cur))::Fh s:Hp).map (·.1)).Nodup:=jN (by rw [aa,if_neg (by omega)];exact hfr) (hh.nd hd _);have hm:bZ (b_ ((K,Ob.box 37 x.cells)::(n,Ob.arr 37 2 l.length (l_ cur))::Fh s) (Fh (step s x).1) (Fh s)) (Fh (step s x).1)=(K,Ob.box 37 x.cells)::(n,.arr 37 2 l.length (l_ cur))::Fh (step s x).1:=
        k9 (pre:=[(K,.box 37 x.cells),(n,.arr 37 2 l.length (l_ cur))]) (hd.nm s x).symm n9
      have hh2:ji Fh n (K0+(j+1)*(aQ+1)) s0 (step s x).1:=by rw [hK1];exact (hh.next hd x).mono (by omega)
      have hfr2:List.lookup K (Fh (step s x).1)=none:=iN (by rw [hd.nm s x];exact d_ hfr);have hdr2:=wF hdr;refine SW.seq (SW.seq ?_);refine SW.g0 [0,1,4,5,6,7,12,19,29] mixed (h1) ?_;refine SW.aj rfl (SW.skip ?_);refine (?_:Sl.SW _ _ _ _ _ _);refine SW.seq (SW.block (SW.seq ?_));refine SW.g0 [0,1,4,5,6,7,12,19,29] mixed (And.intro (bW hxc) (And.intro (sN hxc) (And.intro (hfr') (f1)))) ?_;refine SW.seq ?_;rcases hb:(step s x).2 with _ | _
      · rw [hb] at hc
        refine SW.g1 [0,1,4,5,6,7,12,19,29] mixed (hm) (And.intro hs hc) ?_;refine SW.aj rfl (SW.seq ?_);have hs1:cN (List.map SV.d (cur.flatMap Dt.ds)) (w*2) x.cells=List.map SV.d ((cur.set w x).flatMap Dt.ds):=Gp x (by omega);have hs2:(w*2+2≤(List.map SV.d (cur.flatMap Dt.ds)).length)=True:=eq_true (by rw [List.length_map,kO,hcl2];omega);refine SW.g0 [0,1,4,5,6,7,12,19,29] mixed (And.intro (hs1) (And.intro (hs2) (f1))) ?_;refine SW.g0 [0,1,4,5,6,7,12,19,29] mixed (e3) ?_;refine SW.g0 [0,1,4,5,6,7,12,19,29] mixed (e2) ?_;rw [if_neg (by rw [hb];simp)] at he;refine ⟨⟨(j+1,w+1,cur.set w x,(step s x).1),⟨by show j+1≤l.length;omega,by show w+1<j+1;omega,by simp [hcl2]⟩,by rw [set_drop (by omega)];exact hdr2,hd.nx j s x hIs hGx (by omega),hh2,?_⟩,id,by simp;omega,?_⟩
        · rw [he,yZ (by omega)];simp
        · exact aK.same (by show k≤k+l.length*aQ+_;omega) (by simp [bp,List.lookup,SV.aC,SV.bV,SV.ok];exact ⟨by show n<k+l.length*aQ+_;omega,ok1 _ (by show k≤k+l.length*aQ+_;omega)⟩) (hh2.sE (by show n<k+l.length*aQ+_;omega) _) (fun y hy=>by
            rw [aa,if_neg ?_]
            · exact aG (hh2.nd hd _) y hy
            · intro e
              rcases List.mem_cons.1 hy with rfl | hy
              · dsimp only at e;omega
              · have:=mC (aG (hd.nd _) y hy)
                rw [e] at this;exact d_ hfr2 this)
      · rw [hb] at hc
        refine SW.g1 [0,1,4,5,6,7,12,19,29] mixed (hm) (And.intro hs hc) ?_;refine SW.ah rfl (SW.skip ?_);refine SW.g0 [0,1,4,5,6,7,12,19,29] mixed (e2) ?_;rw [if_pos (by rw [hb])] at he;refine ⟨⟨(j+1,w,cur,(step s x).1),⟨by show j+1≤l.length;omega,by show w<j+1;omega,hcl2⟩,hdr2,hd.nx j s x hIs hGx (by omega),hh2,he⟩,id,by simp;omega,?_⟩;exact aK.same (by show k≤k+l.length*aQ+_;omega) (by simp [bp,List.lookup,SV.aC,SV.bV,SV.ok];exact ⟨by show n<k+l.length*aQ+_;omega,ok1 _ (by show k≤k+l.length*aQ+_;omega)⟩) (hh2.sE (by show n<k+l.length*aQ+_;omega) _) (fun y hy=>by
            rw [aa,if_neg ?_]
            · exact aG (hh2.nd hd _) y hy
            · intro e
              rcases List.mem_cons.1 hy with rfl | hy
              · dsimp only at e;omega
              · have:=mC (aG (hd.nd _) y hy)
                rw [e] at this;exact d_ hfr2 this)
    · have h1:decide ((j:Int)<l.length)=false:=by simp only [decide_eq_false_iff_not];omega
      have e:j=l.length:=by omega
      rw [e,List.drop_length] at he;simp only [eP,List.append_nil] at he;have hKe:K=k+(l.length*aQ+l.length*(aQ+1)):=by rw [← hK,e];show k+l.length*aQ+_=_;omega
      rw [e] at h1;refine SW.seq (SW.seq ?_);rw [e];refine SW.g0 [0,1,4,5,6,7,12,19,29] mixed (h1) ?_;refine SW.ah rfl (SW.exit ?_);refine (?_:Sl.SW _ _ _ _ _ _);have e4:(w*2+(l.length - w)*2≤(List.map SV.d (cur.flatMap Dt.ds)).length)=True:=eq_true (by
        rw [List.length_map,kO,hcl2,← Nat.add_mul];exact Nat.mul_le_mul_right 2 (by omega))
      refine SW.seq ?_;refine SW.g0 [0,1,4,5,6,7,12,19,29] mixed (e4) ?_;have hz:((Dt.mk 0 0).cells).length=2:=rfl;have hct:=Dh cur w (l.length - w) (Dt.mk 0 0).cells hz (by omega);obtain ⟨Z,hZ⟩:∃ Z,cN (l_ cur) (w*2) (List.replicate (l.length - w) (Dt.mk 0 0).cells).flatten=Z:=⟨_,rfl⟩;rw [hZ] at hct;rw [hZ];refine SW.seq ?_;refine SW.g0 [0,1,4,5,6,7,12,19,29] mixed af ?_;refine SW.trim (n:=n) (e:=37) (sz:=2) (len:=l.length) (cs:=Z) w (by simp [aa]) (by omega) ?_;dsimp only;rw [jD,hct,hKe];rw [hKe] at hh;refine SW.ret ?_;rw [he];have hlw:(cur.take w).length=w:=by rw [List.length_take];omega
      exact End.mk ((n,.arr 37 2 w (l_ (cur.take w)))::Fh s) (h3:=fun _ _ h=>h) (h4:=⟨by simp [eH,hlw],by simp [hlw]⟩) (h5:=by simp [eH,SV.ok];omega) (h6:=hh.sE (by omega) _)
include hd in
theorem A2 (l:List Dt)(s0:σ)(hl:l.length<1000000000)(hB:l.length≤B)(hG:∀ x,x∈l→G x)(hI:I 0 s0)(n k:Nat)(hn:n<k)(h0:ji Fh n k s0 s0)(lJ:(Fh s0).ok (fun m=>(lk (Fh s0) m).isSome)=true):
  aF Tryz.prog slices_DeleteFunc_Lapi_Dot_api_Dot.f [.gs n l.length,.fn (.func g) first cap] ((n,.arr 37 2 l.length (l_ l))::Fh s0) k (l.length*aQ+l.length*(aQ+1)) (.gs n (eP step s0 l).1.length)
   ((n,.arr 37 2 (eP step s0 l).1.length (l_ (eP step s0 l).1))::Fh (eP step s0 l).2):=by
 unfold aF;have hq:=xI (n:=n) (o:= .arr 37 2 l.length (l_ l)) (fun q=>SV.br _) lJ h0.no;have hq0:(Fh s0).ok (fun m=>(lk ((n,Ob.arr 37 2 l.length (l_ l))::Fh s0) m).isSome)=true:=by
  simp only [Hp.ok,List.all_cons,Bool.and_eq_true] at hq ⊢;exact hq.2
 obtain ⟨o1,o2⟩:=hd.a1 s0 _ hq0;refine (A1 hd l s0 hl hB hG hI n k hn h0 lJ).here (fun m=>(lk ((n,Ob.arr 37 2 l.length (l_ l))::Fh s0) m).isSome) (fun m h e=>by rw [e] at h;cases h) (by simp only [SV.ax,SV.ok,o1,o2,Bool.and_true];simp [aa]) hq ?_;rintro x F ⟨rfl,rfl⟩ _ _;refine ⟨by simp [SV.ok,aa],?_⟩;have:=vb hd l s0 hq0;exact an (by simp [aa]) (SV.br _) (Hp.ez (fun m hm=>by rw [hm];rfl) this)
end
end Go.Proofs.YtaelhkkjgfobhaaGreat
namespace Go.Proofs.YtaelhkkjgfobhaaGreat
open Go.Sl Go.Proofs Go.Sort
attribute [local irreducible] SW RW aF SC ai aq
abbrev kE (L:List Dt)(n:Nat):Ob:= .arr 37 2 L.length ((L.flatMap Dt.ds).map .d)
theorem zG {L:(MM Dt ag)}{c:Nat}(hwf:MM.wf L c)(hL:L.length<1000000000):
  SB Tryz.prog slices_SortedFunc_api_Dot.f [.fn (.func maps_Keys_map_api_Dot_api_Op_api_Dot_api_Op_1.f) [] [.ptr 0 0],.fn (.func dot_Compare.f) [] []] (dU 0 1 L c) 2 1
   fun r F=>r= .gs 2 (Dt.sorted (MM.keys L)).length∧F=(2,kE (Dt.sorted (MM.keys L)) 2)::dU 0 1 L c:=by
 refine slices_SortedFunc_api_Dot.enter (by simp [SV.ok,SV.ax]) (mI _ _ _ _ _ rfl rfl) (by simp) ?_;dsimp only [slices_SortedFunc_api_Dot.s,Co.M,Co.J,Co.F,Co.P,Co.Q,Co.S];refine SW.seq ?_;refine SW.g0 [0,1,4,5] mixed af ?_;refine SW.seq (SW.vC ?_);(repeat (first | refine bu.op af (h:= ?_) | refine bu.dD af (h:= ?_) | refine bu.skip (h:= ?_)));refine bu.aM (s5 hwf hL) (fun _ _ h=>h) (h:= ?_);rintro v F' ⟨rfl,l,hl,rfl⟩;simp only [bS,bZ,b_,fC,fK,cM,lk,List.lookup,Nat.reduceBEq,BEq.rfl,beq_self_eq_true,if_true,if_false,reduceIte,Nat.reduceEqDiff,Bool.false_eq_true,Option.isSome_some,Option.isSome_none,Nat.reduceAdd,dU];(repeat (first | refine bu.op af (h:= ?_) | refine bu.dD af (h:= ?_) | refine bu.skip (h:= ?_)));refine bu.nil ?_;have hlen:l.length=L.length:=by rw [hl.length_eq];simp [MM.keys]
 refine SW.seq (SW.vC ?_);(repeat (first | refine bu.op af (h:= ?_) | refine bu.dD af (h:= ?_) | refine bu.skip (h:= ?_)));rw [← hlen];refine bu.uE af (oI 2 l (by omega) 3) (h:= ?_);refine bu.nil ?_;refine SW.seq ?_;refine SW.g0 [0,1,4,5] mixed af ?_;have fc:(Dt.sorted l).length=l.length:=(Dt.sorted_perm l).length_eq;have hse:Dt.sorted l=Dt.sorted (MM.keys L):=Dt.jO ((Dt.sorted_perm l).trans hl) (Dt.f_ l);rw [← hse,← fc];refine SW.ret ?_;exact End.mk ((2,kE (Dt.sorted l) 2)::dU 0 1 L c) (h4:=⟨rfl,rfl⟩) (h6:=by simp [dU,Hp.ok,Ob.ok,SV.ax,SV.ok,SV.br,bq])
theorem zH {L:(MM Dt ag)}{c:Nat}(hwf:MM.wf L c)(hL:L.length<1000000000)(k:Nat)(b m:Nat)(KY:b≠m):
  aF Tryz.prog slices_SortedFunc_api_Dot.f [.fn (.func maps_Keys_map_api_Dot_api_Op_api_Dot_api_Op_1.f) [] [.ptr b 0],.fn (.func dot_Compare.f) [] []] (dU b m L c) k 1 (.gs k (Dt.sorted (MM.keys L)).length) ((k,kE (Dt.sorted (MM.keys L)) k)::dU b m L c):=by
 have h:=SB.pz [b,m] (zG hwf hL) (by simp [KY]) (fun i hi=>pP L c i (by simpa using hi)) k
 simpa [SV.aT,SV.aC,fF,dU,Hp.aC,Ob.aC,bK,SV.gD] using h
set_option maxHeartbeats 4000000 in
theorem wY (S:Sh)(hwf:MM.wf S.ops S.co)(hL:S.ops.length<1000000000):SB Tryz.prog shape_Shape_Dots.f [.ptr 0 0] S.h0 7 2 fun r F=>r= .gs 8 (Dt.sorted (MM.keys S.ops)).length∧F=(8,kE (Dt.sorted (MM.keys S.ops)) 8)::S.h0:=by
 refine shape_Shape_Dots.enter (by simp [SV.ax,SV.ok]) (S.ok (Nat.le_refl 7)) (by simp) ?_;dsimp only [shape_Shape_Dots.s,Co.M,Co.J,Co.F,Co.C,Co.T,Co.P,Co.D,Co.A,Co.S];refine SW.seq ?_;refine SW.g0 [0,2,4] mixed af ?_;refine SW.seq (SW.seq ?_);refine SW.g1 [0,2,4] mixed af (ry S) ?_;refine SW.ah rfl (SW.skip ?_);refine SW.seq ?_;have cS:aF Tryz.prog slices_SortedFunc_api_Dot.f [.fn (.func maps_Keys_map_api_Dot_api_Op_api_Dot_api_Op_1.f) [] [.ptr 7 0],.fn (.func dot_Compare.f) [] []] [(7,.box 107 [.mp 1]),(1,.map (au Dt.cells ov S.ops) S.co)] 8 1 (.gs 8 (Dt.sorted (MM.keys S.ops)).length) [(8,kE (Dt.sorted (MM.keys S.ops)) 8),(7,.box 107 [.mp 1]),(1,.map (au Dt.cells ov S.ops) S.co)]:=zH hwf hL 8 7 1 (by decide);have cK:=zz S.ops S.co 1;refine SW.g2 [0,2,4] mixed af cK cS ?_;refine SW.ret ?_;exact End.mk ((8,kE (Dt.sorted (MM.keys S.ops)) 8)::S.h0) (h4:=⟨rfl,rfl⟩) (h6:=an (by decide) (SV.br _) (S.ok (by decide)))
end Go.Proofs.YtaelhkkjgfobhaaGreat
namespace Go.Proofs.YtaelhkkjgfobhaaGreat
open Go.Sl Go.Proofs
section
def kv (n:Nat):SV:= .d (.int .u8 n)
theorem I9 (L:MM Dt Nat)(a:Dt):gB (au Dt.cells kv L) (.d (.int .u8 0)) (MM.idx L a)= .d (.int .u8 (((MM.get L a).getD 0:Nat):Int)):=iW (vs:=kv) 0 L a
theorem B1 (L:MM Dt Nat)(c:Nat)(a:Dt)(n:Nat):j8 (au Dt.cells kv L) c (.agg a.cells) (.d (.int .u8 (n:Int))) (MM.idx L a)= .map (au Dt.cells kv (MM.put L c a n)) (MM.jl L c a):=jA (vs:=kv) L c a n
theorem jX (ρ:Nat→Nat)(L:MM Dt Nat):(au Dt.cells kv L).map (fun e=>(e.1,e.2.1.aC ρ,e.2.2.aC ρ))=au Dt.cells kv L:=kT ρ L (fun a=>Dt.ay a ρ) (fun _=>rfl)
theorem nS (q:Nat→Bool)(L:MM Dt Nat):((au Dt.cells kv L).all fun e=>e.2.1.ok q && e.2.2.ok q)=true:=nj q L (fun a=>Dt.ak a q) (fun _=>rfl)
structure KM where
 m:MM Dt Nat
 c:Nat
def KM.put (K:KM)(d:Dt)(n:Nat):KM:=⟨MM.put K.m K.c d n,MM.jl K.m K.c d⟩
def KM.get (K:KM)(d:Dt):Nat:=(MM.get K.m d).getD 0
theorem KM.dw (K:KM)(d e:Dt)(n:Nat):(K.put d n).get e=if e=d then n else K.get e:=by
 unfold KM.put KM.get;rw [MM.dw]
 split <;> rfl
section
variable (qD:Dt→Bool) (eO:Dt→List Dt)
def eF:Nat→Dt→Bool
 | 0,_=>false
 | n+1,d=>qD d && (eO d).all (eF n)
def og:Nat→KM→Dt→KM
 | 0,K,_=>K
 | n +1,K,d=>if K.get d>0 then K else
   let q:=(eO d).foldl (fun (q:Bool×KM) t=>(q.1 && eF qD eO n t,if q.1 then og n q.2 t else q.2)) (qD d,K)
   if eF qD eO (n+1) d then (q.2.put d 1).put d 2 else q.2.put d 1
variable {qD eO} {lv:Dt→Nat} (hlv:∀ d t,t∈eO d→lv t<lv d)
include hlv
theorem pQ:∀ (n m:Nat) (d:Dt),lv d<n→lv d<m→eF qD eO n d=eF qD eO m d
 | 0,_,_,h,_=>absurd h (Nat.not_lt_zero _)
 | _,0,_,_,h=>absurd h (Nat.not_lt_zero _)
 | n +1,m+1,d,h1,h2=>by
  simp only [eF]
  congr 1
  rw [Bool.eq_iff_iff,List.all_eq_true,List.all_eq_true];have key:∀ t,t∈eO d→eF qD eO n t=eF qD eO m t:=fun t ht=>by
   have:=hlv d t ht;exact pQ n m t (by omega) (by omega)
  exact ⟨fun h t ht=>by rw [← key t ht];exact h t ht,fun h t ht=>by rw [key t ht];exact h t ht⟩
omit hlv in
def KM.ok (fin:Dt→Bool)(K:KM):Prop:=∀ d,K.get d=0∨K.get d=if fin d then 2 else 1
variable {N:Nat} (hN:∀ d,lv d<N)
include hN
theorem pR:∀ (n:Nat) (K:KM) (d:Dt),lv d<n→K.ok (eF qD eO N)→(og qD eO n K d).ok (eF qD eO N)∧(og qD eO n K d).get d=if eF qD eO N d then 2 else 1
 | 0,_,_,h,_=>absurd h (Nat.not_lt_zero _)
 | n + 1,K,d,h,hK=>by
  have ef:eF qD eO (n+1) d=eF qD eO N d:=pQ hlv _ _ d h (hN d);have hloop:∀ (T:List Dt) (q:Bool×KM),(∀ t,t∈T→t∈eO d)→q.2.ok (eF qD eO N)→(T.foldl (fun (q:Bool×KM) t=>(q.1 && eF qD eO n t,if q.1 then og qD eO n q.2 t else q.2)) q).2.ok (eF qD eO N):=fun T=>by
   induction T with
   | nil=>exact fun q _ hq=>hq
   | cons t T ih=>
    intro q hT hq;rw [List.foldl_cons];refine ih _ (fun x hx=>hT x (List.mem_cons_of_mem _ hx)) ?_;dsimp only
    split
    ·have:=hlv d t (hT t (List.mem_cons_self ..))
     exact (pR n q.2 t (by omega) hq).1
    ·exact hq
  unfold og
  by_cases hg:K.get d>0
  ·rw [if_pos hg]
   exact ⟨hK,(hK d).resolve_left (by omega)⟩
  ·rw [if_neg hg]
   have h2:=hloop (eO d) (qD d,K) (fun _ h=>h) hK;dsimp only;generalize ((eO d).foldl (fun (q:Bool×KM) t=>(q.1 && eF qD eO n t,if q.1 then og qD eO n q.2 t else q.2)) (qD d,K)).2=K2 at h2;rw [ef];cases hf:eF qD eO N d with
   | true=>
    rw [if_pos rfl];refine ⟨fun e=> ?_,by rw [KM.dw];simp⟩;rw [KM.dw,KM.dw]
    by_cases e1:e=d
    ·subst e1;rw [if_pos rfl,hf];exact .inr rfl
    ·rw [if_neg e1,if_neg e1];exact h2 e
   | false=>
    rw [if_neg (by simp)];refine ⟨fun e=> ?_,by rw [KM.dw];simp⟩;rw [KM.dw]
    by_cases e1:e=d
    ·subst e1;rw [if_pos rfl,hf];exact .inr rfl
    ·rw [if_neg e1];exact h2 e
end
end
section
attribute [local irreducible] SW RW aF SC ai aq j6 Ac
def s7 (st:aB)(s x m:Nat):List SV:= .ptr s 0:: .ptr x 0::(st.cells++[.mp m])
theorem lS (ρ:Nat→Nat)(st:aB)(s x m:Nat):SV.aT ρ (s7 st s x m)=s7 st (ρ s) (ρ x) (ρ m):=by
 unfold s7;simp [SV.aT,SV.aC,SV.jT,aB.ay]
theorem ye (q:Nat→Bool)(st:aB)(s x m:Nat)(h:q s=true∧q x=true∧q m=true):SV.ax q (s7 st s x m)=true:=by
 unfold s7;simp [SV.ax,SV.ok,SV.kP,aB.ak,h.1,h.2.1,h.2.2]
theorem Gr (st:aB)(s x m:Nat):(s7 st s x m)[0]? =some (.ptr s 0):=rfl
theorem M_ (st:aB)(s x m:Nat):(s7 st s x m)[1]? =some (.ptr x 0):=rfl
theorem Na (st:aB)(s x m:Nat):(s7 st s x m)[10]? =some (.mp m):=rfl
theorem Og (st:aB)(s x m:Nat):List.take 8 (List.drop 2 (s7 st s x m))=st.cells:=rfl
theorem zI (st:aB)(s x m:Nat):(s7 st s x m).length=11:=rfl
abbrev Ix.h2 (X:Ix):Hp:=[(2,.box 110 [.any,.mp 3,.mp 4,.mp 5]),(3,.map (au Dt.cells ov X.ops) X.co),(4,.map (au Dt.cells dn X.ch) X.cc),(5,.map (au Dt.cells dn X.lR) X.cf)]
abbrev fT (S:Sh):Hp:=[(6,.box 117 [.ptr 10 0,.mp 7,.mp 8,.mp 9]),(7,.map (au Dt.cells ov S.ops) S.co),(8,.map (au Dt.cells iv S.fZ) S.ca),(9,.map (au Dt.cells dv S.l9) S.cl),(10,.box 166 [.mp 11,.mp 12]),(11,.map (au Dt.cells cv S.tr) S.ct),(12,.map (au Dt.cells ov S.md) S.cm)]
abbrev fH (S:Sh)(X:Ix)(st:aB)(K:KM):Hp:=(0,.box 134 (s7 st 6 2 1))::(1,.map (au Dt.cells kv K.m) K.c)::(2,.box 110 [.any,.mp 3,.mp 4,.mp 5])::(3,.map (au Dt.cells ov X.ops) X.co)::(4,.map (au Dt.cells dn X.ch) X.cc)::(5,.map (au Dt.cells dn X.lR) X.cf)::fT S
theorem s8 (S:Sh)(X:Ix)(st:aB)(K:KM){k:Nat}(hk:13≤k):(fH S X st K).ok (fun n=>decide (n<k))=true:=by
 refine an (by simp;omega) (ye _ _ _ _ _ (by simp;omega)) (an (by simp;omega) (nS _ _) (an (by simp;omega) (by simp [Ob.ok,SV.ax,SV.ok];omega) (an (by simp;omega) (bq _ _) (an (by simp;omega) (eB _ _) (an (by simp;omega) (eB _ _) ?_)))));refine an (by simp;omega) (by simp [Ob.ok,SV.ax,SV.ok];omega) (an (by simp;omega) (bq _ _) (an (by simp;omega) (bJ _ _) (an (by simp;omega) (jf _ _) (an (by simp;omega) (by simp [Ob.ok,SV.ax,SV.ok];omega) (an (by simp;omega) (gT _ _) (an (by simp;omega) (bq _ _) rfl))))))
theorem OM (S:Sh)(X:Ix)(st:aB)(K:KM):∀ y,y∈fH S X st K→lk (fH S X st K) y.1=some y.2:=fun y hy=>by
 simp only [List.mem_cons,List.not_mem_nil,or_false] at hy;rcases hy with rfl | rfl | rfl | rfl | rfl | rfl | rfl | rfl | rfl | rfl | rfl | rfl | rfl <;> rfl
theorem Lw (S:Sh)(X:Ix)(st:aB)(K:KM)(o:Ob):∀ y,y∈fH S X st K→lk ((13,o)::fH S X st K) y.1=some y.2:=fun y hy=>by
 simp only [List.mem_cons,List.not_mem_nil,or_false] at hy;rcases hy with rfl | rfl | rfl | rfl | rfl | rfl | rfl | rfl | rfl | rfl | rfl | rfl | rfl <;> rfl
abbrev fB (S:Sh)(X:Ix)(st:aB)(K:KM)(d:Dt):Hp:=(13,.box 37 d.cells)::fH S X st K
theorem Gs (S:Sh)(X:Ix)(st:aB)(K:KM)(d:Dt){k:Nat}(hk:14≤k):(fB S X st K d).ok (fun n=>decide (n<k))=true:=an (by simp;omega) (by simp [Ob.ok,Dt.ak]) (s8 S X st K (by omega))
theorem JU (S:Sh)(X:Ix)(st:aB)(K:KM)(d:Dt):∀ y,y∈fB S X st K d→lk (fB S X st K d) y.1=some y.2:=fun y hy=>by
 rcases List.mem_cons.1 hy with rfl | hy
 ·rfl
 ·exact Lw S X st K _ y hy
theorem Gt (S:Sh)(X:Ix)(st:aB)(K:KM)(d:Dt)(o:Ob):∀ y,y∈fB S X st K d→lk ((14,o)::fB S X st K d) y.1=some y.2:=fun y hy=>by
 simp only [List.mem_cons,List.not_mem_nil,or_false] at hy;rcases hy with rfl | rfl | rfl | rfl | rfl | rfl | rfl | rfl | rfl | rfl | rfl | rfl | rfl | rfl <;> rfl
abbrev n13:List Nat:=[0,1,2,3,4,5,6,7,8,9,10,11,12]
theorem JV (S:Sh)(X:Ix)(st:aB)(K:KM):∀ i,i<13→lk (fH S X st K) i≠none:=fun i hi=>by
 match i,hi with
 | 0,_ | 1,_ | 2,_ | 3,_ | 4,_ | 5,_ | 6,_ | 7,_ | 8,_ | 9,_ | 10,_ | 11,_ | 12,_=>simp [aa]
theorem Gu (X:Ix)(hX:X.small)(d:Dt)(k:Nat):aF Tryz.prog revoke_Index_Threats.f [.ptr 2 0,.agg d.cells] X.h2 k (9+j6 4) (gJ X d) X.h2:=by
 have:=SB.pz [2,3,4,5] (I3 X hX d) (by decide) (fun i hi=>by
  match i,hi with
  | 0,_ | 1,_ | 2,_ | 3,_=>simp [aa]) k
 rw [show X.h0.aC (fF [2,3,4,5] k)=X.h2 by simp [Hp.aC,Ob.aC,SV.aT,SV.aC,fF,bK,eN],show (gJ X d).aC (fF [2,3,4,5] k)=gJ X d by unfold gJ;split <;> simp [SV.aT,SV.aC]] at this
 simpa [SV.aT,SV.aC,fF,Dt.ay] using this
def Ix.bY (X:Ix)(d:Dt):List Dt:=if MM.has X.ops d then Dt.set (X.eO (X.op d)) else []
theorem JW (S:Sh)(X:Ix)(st:aB)(K:KM)(k:Nat):(fH S X st K).aC (fF n13 k)=fH S X st K:=by
 simp [Hp.aC,Ob.aC,SV.aT,SV.aC,fF,lS,jX,bK,eN,cH,dZ,dG]
theorem SW.Nb {P:Program}{N k0:Nat}{c:bP}{st:St}{Q:Exit→St→Prop}{V:DV}{T:List Dt}(h:V= .aJ∧T=[]∨SV.d V=aW T)(t:Nat)(hl:st.env.lookup t=some (.d V))(hk:Go.Sl.SW P N k0 c ⟨(t,aW T)::st.env,st.hp,st.k⟩ Q):Go.Sl.SW P N k0 c st Q:=by
 rcases h with ⟨rfl,rfl⟩ | h
 ·exact SW.aJ t hl hk
 ·rw [h] at hl
  exact SW.slot t _ hl (fun _ _ _ _ h=>h) hk
theorem wZ (B:Dt→Bool)(F:KM→Dt→KM):∀ (T:List Dt) (q:Bool×KM),(T.foldl (fun (q:Bool×KM) t=>(q.1 && B t,if q.1 then F q.2 t else q.2)) q).1=(q.1 && T.all B)
 | [],q=>by simp
 | t::T,q=>by rw [List.foldl_cons,wZ B F T];simp [Bool.and_assoc]
theorem vc {S:Sh}{X:Ix}{st:aB}{K K':KM}{d:Dt}{b:Bool}(h:SB Tryz.prog final_asker_final.f [.ptr 0 0,.agg d.cells] (fH S X st K) 13 0 fun r F=>r=bl b∧F=fH S X st K')(k:Nat):aF Tryz.prog final_asker_final.f [.ptr 0 0,.agg d.cells] (fH S X st K) k 0 (bl b) (fH S X st K'):=by
 have:=SB.pz n13 h (by decide) (fun i hi=>JV S X st K i hi) k;rw [JW,JW] at this
 simpa [SV.aT,SV.aC,fF,Dt.ay] using this
abbrev iQ (st:aB):Dt→Bool:=fun d=>st.bn d
set_option maxHeartbeats 16000000 in
theorem ve (S:Sh)(X:Ix)(hX:X.small)(st:aB)(lv:Dt→Nat)(hlv:∀ d t,t∈X.bY d→lv t<lv d)(N:Nat)(hN:∀ d,lv d<N)(hT:∀ d,(X.bY d).length<1000000000):
    ∀ (n:Nat) (d:Dt) (K:KM),lv d<n→K.ok (eF (iQ st) X.bY N)→SB Tryz.prog final_asker_final.f [.ptr 0 0,.agg d.cells] (fH S X st K) 13 0 fun r F=>r=bl (eF (iQ st) X.bY N d)∧F=fH S X st (og (iQ st) X.bY n K d):=by
  intro n
  induction n with
  | zero=>exact fun _ _ h=>absurd h (Nat.not_lt_zero _)
  | succ n ih=>
    intro d K hln hK;refine final_asker_final.enter (by simp [SV.ax,SV.ok]) (s8 S X st K (Nat.le_refl 13)) (by simp) ?_;dsimp only [final_asker_final.s,Co.M,Co.G,Co.J,Co.H,Co.N,Co.F,Co.C,Co.Z,Co.B,Co.b8,Co.av,Co.T,Co.K,Co.E,Co.L,Co.Q,Co.x,Co.W,Co.Y,Co.V,Co.U,Co.D,Co.A,Co.I,Co.S];have a1:=M_ st 6 2 1;have a2:=Og st 6 2 1;have a3:=Na st 6 2 1;have al:(10+1≤(s7 st 6 2 1).length)=True:=eq_true (by rw [zI];decide);have al2:(2+8≤(s7 st 6 2 1).length)=True:=eq_true (by rw [zI];decide);have hlk:=I9 K.m d;change _=SV.d (.int .u8 ((K.get d:Nat):Int)) at hlk;have hln1:∀ t,t∈X.bY d→lv t<n:=fun t ht=>by have:=hlv d t ht;omega
    have hfn:eF (iQ st) X.bY (n+1) d=eF (iQ st) X.bY N d:=pQ hlv _ _ d hln (hN d);have hS:og (iQ st) X.bY (n+1) K d=if K.get d>0 then K else
      let q:=(X.bY d).foldl (fun (q:Bool×KM) t=>(q.1 && eF (iQ st) X.bY n t,if q.1 then og (iQ st) X.bY n q.2 t else q.2)) (iQ st d,K)
      if eF (iQ st) X.bY (n+1) d then (q.2.put d 1).put d 2 else q.2.put d 1:=rfl
    rw [hS];clear hS;dsimp only [fH,fT];refine SW.seq ?_;refine SW.g0 [0,1,3,4,5,6,8,10,18,36,37,38,39,54] mixed af ?_;refine SW.seq (SW.seq ?_);refine SW.g0 [0,1,3,4,5,6,8,10,18,36,37,38,39,54] mixed (And.intro (a3) (And.intro (al) (hlk))) ?_;refine SW.seq ?_
    by_cases hg:K.get d>0
    · have g1:decide (((K.get d:Nat):Int)>0)=true:=by simp only [decide_eq_true_eq];omega
      refine SW.g0 [0,1,3,4,5,6,8,10,18,36,37,38,39,54] mixed (g1) ?_;refine SW.aj rfl (SW.seq ?_);have g2:(((K.get d:Nat):Int) == 2)=eF (iQ st) X.bY N d:=by
        have:=(hK d).resolve_left (by omega);rw [this];cases eF (iQ st) X.bY N d <;> rfl
      rw [if_pos hg];refine SW.g0 [0,1,3,4,5,6,8,10,18,36,37,38,39,54] mixed (g2) ?_;refine SW.ret ?_;exact End.mk (fH S X st K) (h4:=⟨rfl,rfl⟩) (h6:=s8 S X st K (by decide))
    · have g1:decide (((K.get d:Nat):Int)>0)=false:=by simp only [decide_eq_false_iff_not];omega
      refine SW.g0 [0,1,3,4,5,6,8,10,18,36,37,38,39,54] mixed (g1) ?_;refine SW.ah rfl (SW.skip ?_);rw [if_neg hg];refine SW.seq ?_;have cT:=Gu X hX d;obtain ⟨V,e,hV,hVT⟩:∃ (V:DV) (e:Int),gJ X d= .dm [.d V,.d (.int .i64 e)]∧(V= .aJ∧X.bY d=[]∨SV.d V=aW (X.bY d)):=by
        unfold gJ Ix.bY
        split
        · exact ⟨_,0,rfl,.inr rfl⟩
        · exact ⟨.aJ,7,rfl,.inl ⟨rfl,rfl⟩⟩
      rw [hV] at cT;refine SW.g1 [0,1,3,4,5,6,8,10,18,36,37,38,39,54] mixed (And.intro (a1) (al)) cT ?_;refine SW.weak id (st1:=⟨[(6,.d V),(3,.ptr 13 0),(0,.ptr 0 0)],fB S X st K d,14⟩) (aK.same (by show 13≤14;decide) (by simp [bp,List.lookup,SV.aC,SV.ok,SV.ax]) (Gs S X st K d (Nat.le_refl _)) (JU S X st K d)) ?_;refine SW.Nb hVT 6 rfl ?_;obtain ⟨T,hTe⟩:∃ T,X.bY d=T:=⟨_,rfl⟩;have hTl:=hT d;have hfB:eF (iQ st) X.bY (n+1) d=(iQ st d && T.all (eF (iQ st) X.bY n)):=by rw [← hTe];rfl
      rw [hTe] at hln1 hTl ⊢;clear hVT hV cT hlk g1 hg hTe;have cC:=pH st d;dsimp only [fB,fH,fT];refine SW.seq ?_;refine SW.g1 [0,1,3,4,5,6,8,10,18,36,37,38,39,54] mixed (And.intro (a2) (al2)) cC ?_;refine SW.seq (SW.seq ?_);refine SW.g0 [0,1,3,4,5,6,8,10,18,36,37,38,39,54] mixed af ?_;refine SW.block ?_
      let f:Bool×KM→Dt→Bool×KM:=fun q t=>(q.1 && eF (iQ st) X.bY n t,if q.1 then og (iQ st) X.bY n q.2 t else q.2)
      refine SW.loop (α:={i:Nat // i≤T.length∧((T.take i).foldl f (iQ st d,K)).2.ok (eF (iQ st) X.bY N)}) (fun i=>⟨[(38,i64 i.1),(37,i64 T.length),(36,aW T),(8,bl ((T.take i.1).foldl f (iQ st d,K)).1),(3,.ptr 13 0),(0,.ptr 0 0)],fB S X st ((T.take i.1).foldl f (iQ st d,K)).2 d,14⟩) (fun i=>T.length - i.1) ⟨0,Nat.zero_le _,hK⟩ id (aK.same (by show 13≤14;decide) (by simp [bp,List.lookup,SV.aC,SV.ok,SV.ax]) (Gs S X st K d (Nat.le_refl _)) (JU S X st K d)) ?_;rintro ⟨i,hi,hKi⟩;dsimp only
      by_cases h:i<T.length
      · have h1:decide ((i:Int)<T.length)=true:=by simp only [decide_eq_true_eq];omega
        obtain ⟨t,hx⟩:=aZ h;have e2:IntKind.i64.wrap ((i:Int)+1)=((i+1:Nat):Int):=wrap_i64 _ (by omega);have hsn:(T.take (i+1)).foldl f (iQ st d,K)=f ((T.take i).foldl f (iQ st d,K)) t:=by rw [bH hx,List.foldl_append];rfl
        have htm:=List.mem_of_getElem? hx;have hokt:((T.take (i+1)).foldl f (iQ st d,K)).2.ok (eF (iQ st) X.bY N):=by
          rw [hsn];show (if _ then _ else _:KM).ok _
          split
          · exact (pR hlv hN n _ t (hln1 t htm) hKi).1
          · exact hKi
        have next:∀ (env:List (Nat×SV)) (hp:Hp) (kz:Nat) (q:Bool×KM),(T.take (i+1)).foldl f (iQ st d,K)=q→(∀ y,y∈fB S X st q.2 d→lk hp y.1=some y.2)→bp id 14 env [(38,i64 ((i+1:Nat):Int)),(37,i64 T.length),(36,aW T),(8,bl q.1),(3,.ptr 13 0),(0,.ptr 0 0)]→
            ∃ (j:{i:Nat // i≤T.length∧((T.take i).foldl f (iQ st d,K)).2.ok (eF (iQ st) X.bY N)}) (ρ:Nat→Nat),T.length - j.1<T.length - i∧aK 13 ⟨env,hp,kz⟩ ⟨[(38,i64 j.1),(37,i64 T.length),(36,aW T),(8,bl ((T.take j.1).foldl f (iQ st d,K)).1),(3,.ptr 13 0),(0,.ptr 0 0)],fB S X st ((T.take j.1).foldl f (iQ st d,K)).2 d,14⟩ ρ:=fun env hp kz q hq g1 g2=>by
          refine ⟨⟨i+1,by omega,hokt⟩,id,by show T.length - (i+1)<T.length - i;omega,?_⟩;dsimp only;rw [hq];exact aK.same (by show 13≤14;decide) g2 (Gs S X st _ d (Nat.le_refl _)) g1
        clear hokt;have hfi:f ((T.take i).foldl f (iQ st d,K)) t=(((T.take i).foldl f (iQ st d,K)).1 && eF (iQ st) X.bY n t,if ((T.take i).foldl f (iQ st d,K)).1 then og (iQ st) X.bY n ((T.take i).foldl f (iQ st d,K)).2 t else ((T.take i).foldl f (iQ st d,K)).2):=rfl;rw [hfi] at hsn;clear hfi;generalize (T.take i).foldl f (iQ st d,K)=q at hsn hKi ⊢;obtain ⟨b,K1⟩:=q;dsimp only at hsn hKi ⊢;have cF:=vc (ih t K1 (hln1 t htm) hKi);rw [← pQ hlv n N t (hln1 t htm) (hN t)] at cF;generalize og (iQ st) X.bY n K1 t=K2 at cF hsn;generalize eF (iQ st) X.bY n t=bt at cF hsn;dsimp only [fB,fH,fT];refine SW.seq ?_;refine SW.g0 [0,1,3,4,5,6,8,10,18,36,37,38,39,54] mixed (h1) ?_;refine SW.seq (SW.aj rfl (SW.skip ?_));refine SW.seq (SW.block (SW.seq ?_));refine SW.g0 [0,1,3,4,5,6,8,10,18,36,37,38,39,54] mixed (bW hx) ?_;cases b with
        | false=>
          refine SW.g0 [0,1,3,4,5,6,8,10,18,36,37,38,39,54] mixed af ?_;refine SW.g0 [0,1,3,4,5,6,8,10,18,36,37,38,39,54] mixed (e2) ?_;exact next _ _ _ (false,K1) (by rw [hsn];rfl) (Gt S X st K1 d _) (by simp [bp,List.lookup,SV.aC,SV.ok,SV.ax])
        | true=>
          refine SW.g1 [0,1,3,4,5,6,8,10,18,36,37,38,39,54] mixed af cF ?_;refine SW.g0 [0,1,3,4,5,6,8,10,18,36,37,38,39,54] mixed (e2) ?_;exact next _ _ _ (bt,K2) (by rw [hsn];rfl) (Gt S X st K2 d _) (by simp [bp,List.lookup,SV.aC,SV.ok,SV.ax])
      · have h1:decide ((i:Int)<T.length)=false:=by simp only [decide_eq_false_iff_not];omega
        have hi2:i=T.length:=by omega
        subst hi2;rw [List.take_length] at hKi ⊢;have hq1:(T.foldl f (iQ st d,K)).1=eF (iQ st) X.bY N d:=by
          rw [← hfn,hfB];exact wZ (eF (iQ st) X.bY n) (og (iQ st) X.bY n) T (iQ st d,K)
        rw [← hfn] at hq1 ⊢;show Sl.SW _ _ _ _ _ _;generalize eF (iQ st) X.bY (n+1) d=bf at*;generalize hqe:T.foldl f (iQ st d,K)=q at*;obtain ⟨b,K1⟩:=q;dsimp only at hq1 hKi ⊢;subst hq1;dsimp only [fB,fH,fT];refine SW.seq ?_;refine SW.g0 [0,1,3,4,5,6,8,10,18,36,37,38,39,54] mixed (h1) ?_;refine SW.seq (SW.ah rfl (SW.exit ?_));refine (?_:Sl.SW _ _ _ _ _ _);have m1:j8 (au Dt.cells kv K1.m) K1.c (.agg d.cells) (.d (.int .u8 1)) (MM.idx K1.m d)= .map (au Dt.cells kv (K1.put d 1).m) (K1.put d 1).c:=B1 K1.m K1.c d 1;refine SW.seq ?_;refine SW.g0 [0,1,3,4,5,6,8,10,18,36,37,38,39,54] mixed (And.intro (a3) (And.intro (al) (m1))) ?_;refine SW.seq (SW.seq ?_);refine SW.g0 [0,1,3,4,5,6,8,10,18,36,37,38,39,54] mixed af ?_;have m2:j8 (au Dt.cells kv (K1.put d 1).m) (K1.put d 1).c (.agg d.cells) (.d (.int .u8 2)) (MM.idx (K1.put d 1).m d)= .map (au Dt.cells kv ((K1.put d 1).put d 2).m) ((K1.put d 1).put d 2).c:=B1 (K1.put d 1).m (K1.put d 1).c d 2;generalize K1.put d 1=K2 at m2 ⊢;cases b with
        | true=>
          refine SW.aj rfl ?_;refine SW.g0 [0,1,3,4,5,6,8,10,18,36,37,38,39,54] mixed (And.intro (a3) (And.intro (al) (m2))) ?_;refine SW.seq ?_;refine SW.g0 [0,1,3,4,5,6,8,10,18,36,37,38,39,54] mixed af ?_;refine SW.ret ?_;exact End.mk (fH S X st (K2.put d 2)) (h4:=⟨rfl,rfl⟩) (h6:=s8 S X st _ (by decide))
        | false=>
          refine SW.ah rfl (SW.skip ?_);refine SW.seq ?_;refine SW.g0 [0,1,3,4,5,6,8,10,18,36,37,38,39,54] mixed af ?_;refine SW.ret ?_;exact End.mk (fH S X st K2) (h4:=⟨rfl,rfl⟩) (h6:=s8 S X st _ (by decide))
end
end Go.Proofs.YtaelhkkjgfobhaaGreat
