/-
 Order: where operations stand, by their dots.
-/
import Derived.Test.YtnakpdoioammhaaGreatDoorUK
import Derived.Test.YtnakpdoioammhaaGreatDoorUB
import Derived.Test.YtnakpdoioammhaaGreatDoorUL
import Derived.Test.YtnakpdoioammhaaGreatDoorUF
set_option linter.unusedSectionVars false
set_option linter.unusedVariables false
set_option linter.unusedSimpArgs false
namespace Go.Proofs.YtnakpdoioammhaaGreatDoor
open Go.Sl Go.Proofs
section
attribute [local irreducible] SW RW bB SC ai aa
def zg (t:List ah)(d:Dt):Option Int:=(t.findIdx? fun o=>decide (o.dot=d)).map fun i=>(i:Int)
def x_ (M:MM Dt Int)(t:List ah):Prop:=∀ d,MM.get M d=zg t d
theorem rm (t:List ah)(x:ah)(d:Dt):zg (t++[x]) d=match zg t d with
  | some i=>some i
  | none=>if x.dot=d then some (t.length:Int) else none:=by
 unfold zg
 rw [List.findIdx?_append]
 cases h:t.findIdx? fun o=>decide (o.dot=d) with
 | some i=>simp
 | none=>
  by_cases hx:x.dot=d
  ·simp [List.findIdx?_cons,hx]
  ·simp [List.findIdx?_cons,hx]
theorem DU {M:MM Dt Int}{c:Nat}{d:Dt}{i:Int}(h:(MM.keys M).Nodup)(hh:MM.has M d=false):(MM.keys (MM.put M c d i)).Nodup:=by
 rw [MM.uO,hh]
 simp only [Bool.false_eq_true,if_false]
 rw [List.nodup_append]
 refine ⟨h,by simp,fun a ha b hb e=> ?_⟩
 simp only [List.mem_singleton] at hb
 have:=MM.lS.2 (e ▸ ha:b∈MM.keys M)
 rw [hb,hh] at this;cases this
def XO (l:List ah):Type:={x:Nat×MM Dt Int×Nat // x.1≤l.length∧x_ x.2.1 (l.take x.1)∧(MM.keys x.2.1).Nodup}
def Ix (l:List ah):XO l:=⟨(0,[],0),⟨Nat.zero_le _,fun d=>rfl,List.nodup_nil⟩⟩
def aW (l:List ah)(m:Nat):SV:= .agg [ops l,.mp m]
set_option maxHeartbeats 1000000 in
theorem wV (l:List ah)(hl:l.length<4611686018427387904):SB Tryz.prog order_indexOf.f [ops l] [] 0 3 fun r F=>r=aW l 1∧∃ M c,(x_ M l∧(MM.keys M).Nodup)∧F=[(1,.map (aN Dt.cells iv M) c)]:=by
  refine order_indexOf.enter (by first | rfl | simp [SV.ok,SV.aF]) (by first | rfl | simp [Hp.ok,Ob.ok,SV.ok,SV.aF,ag.an]) (by simp) ?_
  dsimp only [order_indexOf.s,Co.M,Co.G,Co.J,Co.H,Co.N,Co.F,Co.C,Co.Z,Co.B,Co.b8,Co.aJ,Co.b_,Co.i6,Co.z8,Co.cn]
  have s1:bV (bV [SV.d .aY,SV.d .ir] 0 [ops l]) 1 [SV.mp 1]=[ops l,.mp 1]:=rfl
  have s2:bV [SV.d .aY,SV.d .ir] 0 [ops l,.mp 1]=[ops l,.mp 1]:=rfl
  refine SW.seq ?_
  refine SW.g0 [0,2,3,4,5,7,11,12,13,14,27] mixed U ?_
  refine SW.seq ?_
  refine SW.g0 [0,2,3,4,5,7,11,12,13,14,27] mixed (And.intro (s1) (s2)) ?_
  refine SW.seq (SW.seq ?_)
  refine SW.g0 [0,2,3,4,5,7,11,12,13,14,27] mixed U ?_
  refine SW.block ?_
  refine SW.fI (α:=XO l) (fun x=>⟨[(13,i64 x.1.1),(11,ops l),(12,i64 l.length),(3,.ptr 2 0),(2,.ptr 0 0),(0,ops l)],[(2,.box 55 [ops l,.mp 1]),(1,.map (aN Dt.cells iv x.1.2.1) x.1.2.2),(0,.box 55 [.d .aY,.d .ir])],3⟩) (fun x=>l.length - x.1.1) (Ix l) id (And.intro (show (Ix l).val=(0,[],0) from rfl) (show aN Dt.cells iv ([]:MM Dt Int)=[] from rfl)) (round:= ?_)
  rintro ⟨⟨i,M,c⟩,hi,hM,hK⟩
  dsimp only at*
  by_cases h:i<l.length
  · have h1 :decide ((i:Int)<l.length)=true:=by simp only [decide_eq_true_eq];omega
    obtain ⟨x,hx⟩:=bR h
    have e2:IntKind.i64.wrap ((i:Int)+1)=((i+1:Nat):Int):=wrap_i64 _ (by omega)
    have e1:l.take (i+1)=l.take i++[x]:=eR hx
    have hsn:=rm (l.take i) x
    rw [← e1] at hsn
    have u1:=jq x.dot iv M
    have u3:=gq (kc:=Dt.cells) M x.dot
    have u4:=gY (kc:=Dt.cells) M c x.dot (i:Int)
    refine SW.seq ?_
    refine SW.g0 [0,2,3,4,5,7,11,12,13,14,27] mixed (h1) ?_
    refine SW.seq (SW.aC rfl (SW.skip ?_))
    refine SW.seq (SW.block (SW.seq ?_))
    refine SW.g0 [0,2,3,4,5,7,11,12,13,14,27] mixed (And.intro (eX hx) (bQ hx)) ?_
    refine SW.seq ?_
    rcases hh:MM.has M x.dot with _ | _
    · have hn:MM.get M x.dot=none:=by
        rw [← MM.k7]
        rw [← MM.dB] at hh
        cases hz:MM.idx M x.dot with
        | none=>rfl
        | some j=>rw [hz] at hh;cases hh
      refine SW.g0 [0,2,3,4,5,7,11,12,13,14,27] mixed (And.intro (u1) (And.intro (u3) (And.intro (x.gu) (hh)))) ?_
      refine SW.seq ?_
      refine SW.g0 [0,2,3,4,5,7,11,12,13,14,27] mixed U ?_
      refine SW.aC rfl ?_
      refine SW.g0 [0,2,3,4,5,7,11,12,13,14,27] mixed (And.intro (u1) (And.intro (u4) (x.gu))) ?_
      refine SW.g0 [0,2,3,4,5,7,11,12,13,14,27] mixed (e2) ?_
      have hA:x_ (MM.put M c x.dot (i:Int)) (l.take (i+1)):=fun d=>by
        rw [MM.tK,e1,rm,← hM d]
        have zV:(l.take i).length=i:=by simp;omega
        by_cases hd:d=x.dot
        · subst hd
          rw [if_pos rfl,hn,zV];simp
        · rw [if_neg hd]
          cases MM.get M d with
          | some j=>rfl
          | none=>rw [if_neg (fun e=>hd e.symm)]
      exact ⟨⟨(i+1,MM.put M c x.dot (i:Int),MM.qv M c x.dot),⟨by show i+1≤_;omega,hA,DU hK hh⟩⟩,id,by show l.length - (i+1)<_;omega,bk.mk (Φ:=((aN Dt.cells iv (MM.put M c x.dot (i:Int))).all fun e=>e.2.1.ok (fun n=>decide (n<3)) && e.2.2.ok (fun n=>decide (n<3)))=true) (jr _ _ (fun _=>rfl) (fun _=>rfl))⟩
    · refine SW.g0 [0,2,3,4,5,7,11,12,13,14,27] mixed (And.intro (u1) (And.intro (u3) (And.intro (x.gu) (hh)))) ?_
      refine SW.seq ?_
      refine SW.g0 [0,2,3,4,5,7,11,12,13,14,27] mixed U ?_
      refine SW.ay rfl (SW.skip ?_)
      refine SW.g0 [0,2,3,4,5,7,11,12,13,14,27] mixed (e2) ?_
      have hA:x_ M (l.take (i+1)):=fun d=>by
        rw [e1,rm,← hM d]
        cases hg:MM.get M d with
        | some j=>rfl
        | none=>
          by_cases hd:x.dot=d
          · subst hd
            rw [← MM.dB] at hh
            rw [← MM.k7] at hg
            rw [hg] at hh;cases hh
          · rw [if_neg hd]
      exact ⟨⟨(i+1,M,c),⟨by show i+1≤_;omega,hA,hK⟩⟩,id,by show l.length - (i+1)<_;omega,bk.mk (Φ:=((aN Dt.cells iv M).all fun e=>e.2.1.ok (fun n=>decide (n<3)) && e.2.2.ok (fun n=>decide (n<3)))=true) (jr _ _ (fun _=>rfl) (fun _=>rfl))⟩
  · have h1:decide ((i:Int)<l.length)=false:=by simp only [decide_eq_false_iff_not];omega
    have h2:i=l.length:=by omega
    subst h2
    rw [List.take_length] at hM
    refine SW.seq ?_
    refine SW.g0 [0,2,3,4,5,7,11,12,13,14,27] mixed (h1) ?_
    refine SW.seq (SW.ay rfl (SW.exit ?_))
    refine SW.seq ?_
    refine SW.g0 [0,2,3,4,5,7,11,12,13,14,27] mixed (s2) ?_
    refine SW.ret ?_
    exact End.mk [(1,.map (aN Dt.cells iv M) c)] (h4:=⟨rfl,M,c,⟨hM,hK⟩,rfl⟩) (h6:=by simp only [Hp.ok,List.all_cons,List.all_nil,Ob.ok,Bool.and_true];rw [Bool.and_eq_true];exact ⟨by simp,jr _ _ (fun _=>rfl) (fun _=>rfl)⟩)
set_option maxHeartbeats 1000000 in
theorem vw (l:List ah){i j:Nat}{a b:ah}(ha:l[i]? =some a)(hb:l[j]? =some b)(m k:Nat)(hm:m<k):
  SB Tryz.prog order_index_compare.f [aW l m,i64 i,i64 j] [] k 0 fun r F=>r=i64 (pI a b)∧F=[]:=by
 have hi:=dw ha
 have hj:=dw hb
 refine order_index_compare.enter (by simp [aW,SV.ok,SV.aF];omega) (by simp [Hp.ok]) (by simp) ?_
 unfold aW
 dsimp only [order_index_compare.s,Co.M,Co.G,Co.J,Co.H,Co.N,Co.F,Co.C,Co.Z,Co.B,Co.b8,Co.aJ,Co.b_,Co.i6,Co.z8,Co.cn]
 refine SW.seq ?_
 (refine SW.au [0,1,2,3,6] mixed ?_;(repeat (first | refine RW.ro U (h:= ?_) | refine RW.skip (h:= ?_) | refine RW.op U (h:= ?_) | refine RW.aL U (h:= ?_) | refine RW.aj (h:= ?_) | (refine RW.aG (h:= ?_);(first | refine ai.mk U (hc:=lE _ _ _) (h:= ?_)))));refine RW.nil ⟨by kernel_rfl,aa.mk (h:= ?_)⟩)
 refine SW.seq ?_
 (have fx:=(And.intro (eX ha) (And.intro (bQ ha) (And.intro (eX hb) (bQ hb))));refine SW.au [0,1,2,3,6] mixed ?_;(repeat (first | refine RW.ro fx (h:= ?_) | refine RW.skip (h:= ?_) | refine RW.op fx (h:= ?_) | refine RW.aL fx (h:= ?_) | refine RW.aj (h:= ?_) | (refine RW.aG (h:= ?_);(first | refine ai.mk fx (hc:=lE _ _ _) (h:= ?_)))));refine RW.nil ⟨by kernel_rfl,aa.mk (h:= ?_)⟩)
 refine SW.ret ?_
 exact End.mk [] (h4:=⟨rfl,rfl⟩)
end
section
attribute [local irreducible] SW RW bB SC ai aa
section
variable {N k0:Nat} {K:St→Prop}
theorem aK.DW {α σ:Type}{Fh:σ→Hp}{Step:σ→α→σ→Prop}{go:σ→Bool}{ej y B kk d t:Nat}{enc:α→SV}{s0 s:σ}{xs:List α}(hy:jt Tryz.prog y enc ej Fh Step go s0 B)(x:α){G:Hp}{env:List (Nat×SV)}(gp:List (Nat×SV)){r:List SI}{f a:X}
  (hO:fH G Fh s kk) (p1:ig Step s0 xs s) (hlt:xs.length<B) (uk:go s=true) (mq:k0≤kk) (hE:env.lookup t=some (.d (.bool true)))
  (h1:ev (fun t=>env.lookup t) f=some (.yl y)) (h2:ev (fun t=>env.lookup t) a=some (enc x)) (he:∀ b:Bool,bf id kk ((d,bl b)::env) ((d,bl b)::gp))
  (h:∀ s',Step s x s'→fH G Fh s' (kk+ej)→ig Step s0 (xs++[x]) s'→aK Tryz.prog N k0 r ⟨(d,bl (go s'))::gp,G++Fh s',kk+ej⟩ K):
  aK Tryz.prog N k0 (⟨some d,.call f [a],some (t,true)⟩::r) ⟨env,G++Fh s,kk⟩ K:=by
 refine aK.Fz (st:=⟨env,G++Fh s,kk⟩) hE h1 (by simp only [fK];rw [h2]) (hy.yK s) (hy.call s xs x kk p1 hlt hO.okF uk) hO.sub ?_
 rintro v F' ⟨s',hstep,rfl,rfl,hok',hnm⟩
 have hO':fH G Fh s' (kk+ej):=⟨hO.nd,fun n hn=>by have:=hO.lt n hn;omega,fun n hn=>Classical.byContradiction fun hno=>(hnm n hno).elim (fun h=>h (hO.no n hn)) (fun h=>by have:=hO.lt n hn;omega),Hp.fG (by omega) hO.ok,hok'⟩
 show aK Tryz.prog N k0 r ⟨(d,bl (go s'))::env,bn false (G++Fh s) (Fh s) (Fh s'),kk+ej⟩ K
 refine SW.H6 (bk.own hO' (hy.nd s') (by omega) (bf.mono (by omega) (he _)) fun n ob hn=> ?_) (h s' hstep hO' (.snoc p1 hstep))
 have hlk:=gO (ro:=false) hO.sub (F':=Fh s') (fun h=>by cases h)
 show lk (bn false (G++Fh s) (Fh s) (Fh s')) n=some ob
 rw [hlk]
 by_cases hm:n∈G.map (·.1)
 ·rw [dH (hO.no n hm) (hO'.no n hm)]
  rw [kF] at hn ⊢
  cases hg:lk G n with
  | some o=>rw [hg] at hn;exact hn
  | none=>
   rw [hg,Option.none_or,hO'.no n hm] at hn;cases hn
 ·rw [kF,lX hm,Option.none_or] at hn
  rw [eE (.inr (by rw [hn];simp)),hn]
end
def jW (l:List ah)(i:Nat):Bool:=match l[i]? with
 | some x=>decide (zg l x.dot=some (i:Int))
 | none=>false
def mQ (l:List ah)(i:Nat):List Nat:=(List.range i).filter (jW l)
def jX (l:List ah):List Nat:=mQ l l.length
theorem oH (l:List ah)(i:Nat):mQ l (i+1)=if jW l i then mQ l i++[i] else mQ l i:=by
 unfold mQ
 rw [List.range_succ,List.filter_append]
 cases h:jW l i <;> simp [List.filter,h]
theorem vz (l:List ah):∀ {i j:Nat},i≤j→mQ l i <+: mQ l j:=fun {i j} h=>by
 induction h with
 | refl=>exact List.prefix_rfl
 | step _ ih=>
  refine ih.trans ?_
  rw [oH]
  split
  ·exact List.prefix_append _ _
  ·exact List.prefix_rfl
theorem BN {l:List ah}{i:Nat}{x:ah}(h:l[i]? =some x):∃ j:Int,zg l x.dot=some j:=by
 unfold zg
 cases hh:l.findIdx? fun o=>decide (o.dot=x.dot) with
 | some j=>exact ⟨j,by simp⟩
 | none=>
  have:=List.findIdx?_eq_none_iff.1 hh x (List.mem_of_getElem? h)
  simp at this
structure OI {σ:Type}(Fh:σ→Hp)(Step:σ→Nat→σ→Prop)(go:σ→Bool)(s0:σ)(k b q ej:Nat)(l:List ah)(M:MM Dt Int)(c:Nat)(i:Nat)(s:σ)(kk:Nat):Prop where
 c1:i≤l.length
 c2:ig Step s0 (mQ l i) s
 c3:go s=true
 c4:fH [(b,Ob.box 55 [ops l,.mp q]),(q,.map (aN Dt.cells iv M) c)] Fh s kk
 c5:kk≤k+i*(1+ej)
 c6:k≤kk
set_option maxHeartbeats 4000000 in
theorem BO {σ:Type}{Fh:σ→Hp}{Step:σ→Nat→σ→Prop}{go:σ→Bool}{ej y b q k:Nat}{l:List ah}{M:MM Dt Int}{c:Nat}(hl:l.length≤1048576)(hM:x_ M l)(s0:σ)(hy:jt Tryz.prog y (fun x:Nat=>i64 (x:Int)) ej Fh Step go s0 (jX l).length)(uk:go s0=true)
  (hO:fH [(b,Ob.box 55 [ops l,.mp q]),(q,.map (aN Dt.cells iv M) c)] Fh s0 k):
  SB Tryz.prog order_index_once_1.f [.yl y,.ptr b 0] ((b,.box 55 [ops l,.mp q])::(q,.map (aN Dt.cells iv M) c)::Fh s0) k (l.length*(1+ej))
   fun r F=>r= .cW []∧∃ (xs:List Nat) (s':σ),ig Step s0 xs s'∧xs <+: jX l∧(go s'=true→xs=jX l)∧(lk (Fh s') b=none∧lk (Fh s') q=none)∧F=(b,.box 55 [ops l,.mp q])::(q,.map (aN Dt.cells iv M) c)::Fh s':=by
 have hyk:y<k:=by
  obtain ⟨ob,ho⟩:=Option.ne_none_iff_exists'.1 (hy.yK s0)
  simpa using (Hp.f_ hO.okF ho).1
 have hb:b<k:=hO.lt b (by simp)
 have hq:q<k:=hO.lt q (by simp)
 have tX:b≠q:=by have:=hO.nd;simp at this;exact this
 refine order_index_once_1.enter (by simp [SV.ok,SV.aF];omega) hO.Hj (by simp) ?_
 dsimp only [order_index_once_1.s,Co.M,Co.G,Co.J,Co.H,Co.N,Co.F,Co.C,Co.Z,Co.B,Co.b8,Co.aJ,Co.b_,Co.i6,Co.z8,Co.cn]
 have f1:=dY tX
 have fin:∀ (s':σ) (xs:List Nat),ig Step s0 xs s'→xs <+: jX l→(go s'=true→xs=jX l)→fH [(b,Ob.box 55 [ops l,.mp q]),(q,.map (aN Dt.cells iv M) c)] Fh s' (k+l.length*(1+ej))→
   Go.Sl.Fin k (l.length*(1+ej)) [] (fun r F=>r= .cW []∧∃ (xs:List Nat) (s':σ),ig Step s0 xs s'∧xs <+: jX l∧(go s'=true→xs=jX l)∧(lk (Fh s') b=none∧lk (Fh s') q=none)∧F=(b,.box 55 [ops l,.mp q])::(q,.map (aN Dt.cells iv M) c)::Fh s') ⟨[],[(b,Ob.box 55 [ops l,.mp q]),(q,.map (aN Dt.cells iv M) c)]++Fh s',k+l.length*(1+ej)⟩:=by
  intro s' xs a1 a2 a3 hc
  exact End.mk ([(b,Ob.box 55 [ops l,.mp q]),(q,.map (aN Dt.cells iv M) c)]++Fh s') (h3:=fun _ _ h=>h) (h4:=⟨rfl,xs,s',a1,a2,a3,⟨hc.no b (by simp),hc.no q (by simp)⟩,rfl⟩) (h6:=hc.Hj) (h7:=Nat.le_refl _)
 have wk:∀ (s':σ) (env:List (Nat×SV)) (G1:Hp) (kz:Nat),fH G1 Fh s' kz→(∀ z,z∈[(b,Ob.box 55 [ops l,.mp q]),(q,.map (aN Dt.cells iv M) c)]→z∈G1)→kz≤k+l.length*(1+ej)→k≤kz→
   fH [(b,Ob.box 55 [ops l,.mp q]),(q,.map (aN Dt.cells iv M) c)] Fh s' (k+l.length*(1+ej))∧bk k ⟨env,G1++Fh s',kz⟩ ⟨[],[(b,Ob.box 55 [ops l,.mp q]),(q,.map (aN Dt.cells iv M) c)]++Fh s',k+l.length*(1+ej)⟩ id:=by
  intro s' env G1 kz a4 a5 a6 a7
  have hc:=(a4.cut (G:=[(b,Ob.box 55 [ops l,.mp q]),(q,.map (aN Dt.cells iv M) c)]) (by simp [tX]) a5).mono a6
  exact ⟨hc,bk.own hc (hy.nd s') (Nat.le_add_right _ _) trivial (a4.keep a5)⟩
 refine SW.seq ?_
 refine SW.g0 [0,1,3,4,6,7,8,9,25] mixed (f1) ?_
 refine SW.block ?_
 refine SW.loop (α:={i:Nat×σ×Nat // OI Fh Step go s0 k b q ej l M c i.1 i.2.1 i.2.2})
  (fun i=>⟨[(8,i64 i.1.1),(6,ops l),(7,i64 l.length),(0,.yl y),(1,.ptr b 0)],[(b,Ob.box 55 [ops l,.mp q]),(q,.map (aN Dt.cells iv M) c)]++Fh i.1.2.1,i.1.2.2⟩)
  (fun i=>l.length - i.1.1) ⟨(0,s0,k),⟨Nat.zero_le _,.nil,uk,hO,by show k≤_;omega,by show k≤k;omega⟩⟩ id ?_ ?_
 ·exact bk.own hO (hy.nd s0) (Nat.le_refl _) (by simp [bf,List.lookup,SV.aP,SV.ok,SV.aF];omega) (fun n ob hn=>hn)
 rintro ⟨⟨i,s',kz⟩,hi'⟩
 have hi':OI Fh Step go s0 k b q ej l M c i s' kz:=hi'
 obtain ⟨c1,c2,c3,c4,c5,c6⟩:=hi'
 dsimp only at*
 have hmul:∀ n:Nat,n≤l.length→n*(1+ej)≤l.length*(1+ej):=fun n h=>Nat.mul_le_mul_right _ h
 simp only [List.cons_append,List.nil_append]
 by_cases hj:i<l.length
 ·have k1:decide ((i:Int)<l.length)=true:=by simp only [decide_eq_true_eq];omega
  obtain ⟨x,hx⟩:=bR hj
  have k2:IntKind.i64.wrap ((i:Int)+1)=((i+1:Nat):Int):=wrap_i64 _ (by omega)
  have z2:=dY (show kz≠b by omega)
  have z3:=dY (show kz≠q by omega)
  have g2:List.lookup kz (Fh s')=none:=c4.out (Nat.le_refl _)
  have w2:=hmul (i+1) (by omega)
  rw [Nat.add_mul,Nat.one_mul] at w2
  have u1:=jq x.dot iv M
  have u3:=gq (kc:=Dt.cells) M x.dot
  obtain ⟨j,hjx⟩:=BN hx
  have hget:(MM.get M x.dot).getD 0=j:=by rw [hM x.dot,hjx];rfl
  have hpl:=oH l i
  have Fe:jW l i=(j == (i:Int)):=by
   unfold jW
   rw [hx]
   simp only [hjx,Option.some.injEq]
   rw [Bool.eq_iff_iff];simp
  have hbox:fH [(kz,.box 51 x.cells),(b,Ob.box 55 [ops l,.mp q]),(q,.map (aN Dt.cells iv M) c)] Fh s' (kz+1):=fH.new c4 (Nat.le_refl _) (Nat.lt_succ_self _) (ah.an _ _)
  have hin:∀ z,z∈[(b,Ob.box 55 [ops l,.mp q]),(q,.map (aN Dt.cells iv M) c)]→z∈[(kz,.box 51 x.cells),(b,Ob.box 55 [ops l,.mp q]),(q,.map (aN Dt.cells iv M) c)]:=fun z hz=>List.mem_cons_of_mem _ hz
  refine SW.seq ?_
  refine SW.g0 [0,1,3,4,6,7,8,9,25] mixed (k1) ?_
  refine SW.seq (SW.aC rfl (SW.skip ?_))
  refine SW.seq (SW.block (SW.seq ?_))
  refine SW.g0 [0,1,3,4,6,7,8,9,25] mixed (And.intro (f1) (And.intro (z2) (And.intro (z3) (And.intro (g2) (And.intro (eX hx) (bQ hx)))))) ?_
  refine SW.seq ?_
  rcases hji:(j == (i:Int)) with _ | _
  ·rw [Fe,hji] at hpl
   simp only [Bool.false_eq_true,if_false] at hpl
   refine SW.g0 [0,1,3,4,6,7,8,9,25] mixed (And.intro (f1) (And.intro (z2) (And.intro (z3) (And.intro (u1) (And.intro (u3) (And.intro (hget) (hji))))))) ?_
   refine SW.ay rfl (SW.skip ?_)
   refine SW.g0 [0,1,3,4,6,7,8,9,25] mixed (k2) ?_
   dsimp only
   have hc2:fH [(b,Ob.box 55 [ops l,.mp q]),(q,.map (aN Dt.cells iv M) c)] Fh s' (kz+1):=hbox.less (List.sublist_cons_self _ _)
   refine ⟨⟨(i+1,s',kz+1),⟨by show i+1≤_;omega,by show ig _ _ (mQ l (i+1)) _;rw [hpl];exact c2,c3,hc2,by show kz+1≤_;rw [Nat.add_mul i 1 (1+ej),Nat.one_mul];omega,by show k≤kz+1;omega⟩⟩,id,by show l.length - (i+1)<_;omega,?_⟩
   exact bk.own hc2 (hy.nd s') (by omega) (by simp [bf,List.lookup,SV.aP,SV.ok,SV.aF];omega) (hbox.keep hin)
  ·rw [Fe,hji] at hpl
   simp only [if_true] at hpl
   have hlen:(mQ l i).length<(jX l).length:=by
    have:=(vz l (i:=i+1) (j:=l.length) (by omega)).length_le
    rw [hpl] at this
    simp at this
    exact this
   refine SW.lp ?_
   (repeat (first | refine aK.op (And.intro (f1) (And.intro (z2) (And.intro (z3) (And.intro (u1) (And.intro (u3) (And.intro (hget) (hji))))))) (h:= ?_) | refine aK.aL (And.intro (f1) (And.intro (z2) (And.intro (z3) (And.intro (u1) (And.intro (u3) (And.intro (hget) (hji))))))) (h:= ?_) | refine aK.skip (h:= ?_)))
   refine aK.DW (G:=[(kz,.box 51 x.cells),(b,Ob.box 55 [ops l,.mp q]),(q,.map (aN Dt.cells iv M) c)]) hy i [(20,.d (.bool true)),(8,i64 i),(6,ops l),(7,i64 l.length),(0,.yl y),(1,.ptr b 0)] hbox c2 hlen c3 (by omega) rfl rfl rfl (fun bb=>by simp [bf,List.lookup,SV.aP,SV.ok,SV.aF];omega) ?_
   intro s2 hstep hO2 hon
   rw [← hpl] at hon
   rcases hg:go s2 with _ | _
   ·(repeat (first | refine aK.op U (h:= ?_) | refine aK.aL U (h:= ?_) | refine aK.skip (h:= ?_)))
    refine aK.nil ?_
    obtain ⟨w1,w3⟩:=wk s2 _ _ (kz+1+ej) hO2 hin (by omega) (by omega)
    refine SW.aC rfl (SW.weak id w3 (SW.ret ?_))
    exact fin s2 (mQ l (i+1)) hon (vz l (by omega)) (fun h=>by rw [hg] at h;cases h) w1
   ·(repeat (first | refine aK.op U (h:= ?_) | refine aK.aL U (h:= ?_) | refine aK.skip (h:= ?_)))
    refine aK.nil ?_
    refine SW.ay rfl (SW.skip ?_)
    refine SW.g0 [0,1,3,4,6,7,8,9,25] mixed (k2) ?_
    dsimp only
    have hc2:fH [(b,Ob.box 55 [ops l,.mp q]),(q,.map (aN Dt.cells iv M) c)] Fh s2 (kz+1+ej):=hO2.less (List.sublist_cons_self _ _)
    refine ⟨⟨(i+1,s2,kz+1+ej),⟨by show i+1≤_;omega,hon,hg,hc2,by show kz+1+ej≤_;rw [Nat.add_mul i 1 (1+ej),Nat.one_mul];omega,by show k≤kz+1+ej;omega⟩⟩,id,by show l.length - (i+1)<_;omega,?_⟩
    exact bk.own hc2 (hy.nd s2) (by omega) (by simp [bf,List.lookup,SV.aP,SV.ok,SV.aF];omega) (hO2.keep hin)
 ·have k1:decide ((i:Int)<l.length)=false:=by simp only [decide_eq_false_iff_not];omega
  refine SW.seq ?_
  refine SW.g0 [0,1,3,4,6,7,8,9,25] mixed (k1) ?_
  have hjl:i=l.length:=by omega
  rw [hjl] at c2
  obtain ⟨w1,w3⟩:=wk s' _ [(b,Ob.box 55 [ops l,.mp q]),(q,.map (aN Dt.cells iv M) c)] kz c4 (fun z hz=>hz) (by have:=hmul i c1;omega) c6
  refine SW.seq (SW.ay rfl (SW.weak id w3 (SW.exit ?_)))
  exact fin s' (jX l) c2 List.prefix_rfl (fun _=>rfl) w1
end
section
attribute [local irreducible] SW RW bB SC ai aa
theorem Rp.FX {p:Nat→Prop}{μ:Nat→Nm}{M:Mem}{n:Nat}{v:Value}(h:Rp p μ M (.mp n) v):p n:=Classical.byContradiction fun hn=>by
 have h1:=h (fun m=>if m=n then ⟨0,0,true⟩ else μ m) (fun m hm=>if_neg (fun (e:m=n)=>hn (by rw [← e];exact hm)))
 have h2:=h (fun m=>if m=n then ⟨1,0,true⟩ else μ m) (fun m hm=>if_neg (fun (e:m=n)=>hn (by rw [← e];exact hm)))
 simp [cG] at h1 h2
 rw [h1] at h2
 simp at h2
theorem vA (l:List ah){i j:Nat}{a b:ah}(ha:l[i]? =some a)(hb:l[j]? =some b)(q k:Nat):bB Tryz.prog order_index_compare.f [aW l q,i64 i,i64 j] [] k 0 (i64 (pI a b)) []:=by
 have h:=SB.at (vw l ha hb 0 1 (by omega)) (fun _=>q) k (fun n m h1 h2 _=>by omega) (fun n hn p μ M w vals hr hS=>by
  obtain ⟨u,us,e,r1,r2⟩:=aQ.aI.1 hr
  obtain ⟨vs,_,r3⟩:=Rp.c8.1 r1
  obtain ⟨u1,us1,e1,r4,r5⟩:=aQ.aI.1 r3
  obtain ⟨u2,us2,e2,r6,r7⟩:=aQ.aI.1 r5
  exact Rp.FX r6) (fun i hi=>by omega)
 unfold bB
 refine SC.mono h ?_
 rintro r F ⟨r0,F0,⟨rfl,rfl⟩,rfl,rfl⟩
 exact ⟨rfl,rfl⟩
structure BP (y bx:Nat) where
 l:List Nat
 rn:Nat
 h1:rn≠y
 h2:rn≠bx
def gl (y bx N:Nat)(ts ps:List Nat)(ca cb:Code)(s:BP y bx):Hp:=
 [(y,.l5 N ts [.ptr bx 0] ps ca cb .ready none),(bx,.box 62 [.gs s.rn s.l.length]),aR s.rn s.l.length s.l]
theorem DX (l:List Nat)(x:Nat):pc (l++[x])=pc l++[i64 (x:Int)]:=by simp [pc]
set_option maxHeartbeats 1000000 in
theorem vB {y bx B:Nat}(Hs:y≠bx)(s0:BP y bx)(hB:s0.l.length+B<2097152){ca cb:Code}(hca:cK Tryz.prog 13 ca=some (.c7 [⟨some 5,.mv (.t 7),none⟩] (kX 1) false))
    (hcb:cK Tryz.prog 13 cb=some (.block 1 (.c7 [⟨some 8,.load none (.t 2),none⟩,⟨some 9,.mv (.t 5),none⟩,⟨some 10,.nV 3 1 1 [i64 0] [(0,1,.t 9)],none⟩,⟨some 11,.app 3 1 8 (.t 8) (.t 10),none⟩,⟨none,.store 1 (.t 2) (.t 11),none⟩] (kX 5) false))):
    jt Tryz.prog y (fun x:Nat=>i64 (x:Int)) 1 (gl y bx 13 [2] [7] ca cb) (fun s x s'=>s'.l=s.l++[x]) (fun _=>true) s0 B:=by
  refine ⟨fun s=>by simp [gl,af],fun s x hx=> ?_,fun s xs x k hon hlt hok _=> ?_⟩
  · have f1:=dY Hs
    have f2:=dY s.h1
    have f3:=dY s.h2
    simp only [gl,List.mem_cons,List.not_mem_nil,or_false] at hx
    rcases hx with rfl | rfl | rfl <;> simp [gl,af,f1,f2,f3]
  · have hlen:s.l.length=s0.l.length+xs.length:=by
      clear hlt hok
      induction hon with
      | nil=>rfl
      | snoc _ h ih=>rw [h];simp [ih];omega
    obtain ⟨l,rn,h1,h2⟩:=s
    simp only at hlen
    simp only [gl,Hp.ok,List.all_cons,List.all_nil,Ob.ok,SV.aF,SV.ok,jc,Bool.and_true,Bool.and_eq_true,decide_eq_true_eq] at hok
    obtain ⟨⟨k1,_⟩,⟨k2,_⟩,k3⟩:=hok
    have f1:=dY Hs
    have f2:=dY h1
    have f3:=dY h2
    have g1:=dY (show k≠y by omega)
    have g2:=dY (show k≠bx by omega)
    have g3:=dY (show k≠rn by omega)
    have e1:=DX l x
    refine zX.here (fun n=>n == y || n == bx || n == rn) (zX.pV (cs:=[.ptr bx 0]) (H:=[(bx,.box 62 [.gs rn l.length]),aR rn l.length l]) hca hcb rfl rfl rfl (by simp) k1 (by simp [af,bq,f1,f2]) (by simp [SV.aF,SV.ok]) (by simp [Hp.ok,Ob.ok,SV.aF,SV.ok,jc];omega) (by simp [SV.aF,SV.ok];omega) ?_) ?_ (by simp [SV.aF,SV.ok]) (by simp [gl,Hp.ok,Ob.ok,SV.aF,SV.ok,jc]) ?_
    · skip
      show Go.Sl.SW _ _ _ _ ⟨[(7,i64 (x:Int)),(2,.ptr bx 0)],_,_⟩ _
      refine SW.g0 [2,5,7] mixed (And.intro (f1) (And.intro (f2) (And.intro (f3) (And.intro (g1) (And.intro (g2) (g3)))))) ?_
      refine ⟨rfl,SW.block ?_⟩
      have xs1:∀ a b:SV,bV [a] 0 [b]=[b]:=fun _ _=>rfl
      refine SW.g0 [2,5,7] mixed (And.intro (f1) (And.intro (f2) (And.intro (f3) (And.intro (g1) (And.intro (g2) (And.intro (g3) (xs1))))))) ?_
      refine ⟨none,true,[(bx,.box 62 [.gs k (l++[x]).length]),aR k (l++[x]).length (l++[x])],⟨rfl,rfl⟩,?_,?_,by simp,⟨⟨l++[x],k,by omega,by omega⟩,rfl,rfl,rfl,?_,?_⟩⟩
      · refine HSub.cons ?_ (HSub.cons ?_ (HSub.nil _))
        · simp [af,f1,f2,f3,g1,g2,g3]
        · simp [af,e1]
      · simp [Hp.ok,Ob.ok,SV.aF,SV.ok,jc];omega
      · simp [gl,Hp.ok,Ob.ok,SV.aF,SV.ok,jc];omega
      · intro n hn
        by_cases hy':n=y
        · exact .inl (by simp [gl,af,hy'])
        · by_cases hbx:n=bx
          · exact .inl (by simp [gl,af,hbx,f1])
          · refine .inr ?_
            have:n=k:=Classical.byContradiction fun hne=>hn (by simp [gl,af,bq,hy',hbx,hne])
            omega
    · intro n hn
      simp only [Bool.or_eq_true,beq_iff_eq] at hn
      rcases hn with (rfl | rfl) | rfl <;> simp [gl,af,f1,f2,f3]
    · rintro r F' ⟨s',hs',rfl,rfl,hok',hnm⟩ _ _
      obtain ⟨l',rW,h1',h2'⟩:=s'
      refine ⟨rfl,?_⟩
      simp [gl,Hp.ok,Ob.ok,SV.aF,SV.ok,jc]
      have hh:=hnm rW (by simp [gl,af,h1',h2'])
      rcases hh with hh | ⟨hh1,hh2⟩
      · have:rW=rn:=by
          refine Classical.byContradiction fun hne=>hh ?_
          simp [gl,af,bq,h1',h2',hne]
        simp [this]
      · simp [hh1];omega
theorem zh {y bx:Nat}{s0 s:BP y bx}{xs:List Nat}(h:ig (fun (s:BP y bx) x s'=>s'.l=s.l++[x]) s0 xs s):s.l=s0.l++xs:=by
 induction h with
 | nil=>simp
 | snoc _ h ih=>rw [h,ih];simp
abbrev oX (l:List ah)(M:MM Dt Int)(c b q:Nat):Hp:=[(b,.box 55 [ops l,.mp q]),(q,.map (aN Dt.cells iv M) c)]
theorem eY (q:Nat→Bool)(M:MM Dt Int):((aN Dt.cells iv M).all fun e=>e.2.1.ok q && e.2.2.ok q)=true:=jr q M (fun _=>rfl) (fun _=>rfl)
theorem ue (l:List ah):(jX l).length≤l.length:=by
 have:=List.length_filter_le (jW l) (List.range l.length)
 simpa [jX,mQ] using this
set_option maxHeartbeats 2000000 in
theorem wW {l:List ah}{M:MM Dt Int}{c:Nat}(hl:l.length≤1048576)(hM:x_ M l):
  SB Tryz.prog slices_AppendSeq_Lint_int.f [.d .aY,.fn (.func order_index_once_1.f) [] [.ptr 0 0]] (oX l M c 0 1) 2 1
   fun r F=>r= .gs 2 (jX l).length∧F=aR 2 (jX l).length (jX l)::oX l M c 0 1:=by
 refine slices_AppendSeq_Lint_int.enter (by simp [SV.ok,SV.aF]) (by simp [Hp.ok,Ob.ok,SV.aF,SV.ok,eY]) (by simp) ?_
 dsimp only [slices_AppendSeq_Lint_int.s,Co.M,Co.G,Co.J,Co.H,Co.N,Co.F,Co.C,Co.Z,Co.B,Co.b8,Co.aJ,Co.b_,Co.i6,Co.z8,Co.cn]
 refine SW.kZ 0 3 1 rfl ?_
 refine SW.seq ?_
 refine SW.g0 [0,1,2,4,5,6,7] mixed U ?_
 refine SW.seq (SW.seq ?_)
 refine SW.g0 [0,1,2,4,5,6,7] mixed U ?_
 refine SW.block (SW.qn (nk:=l.length*(1+1)) [2] [.ptr 3 0] rfl ⟨rfl,trivial⟩ fun ca cb hca hcb=> ?_)
 have hLl:=ue l
 let s0:BP 4 3:=⟨[],2,by decide,by decide⟩
 have hy:=vB (y:=4) (bx:=3) (B:=(jX l).length) (by decide) s0 (by simp [s0];omega) hca hcb
 have hO:fH (oX l M c 0 1) (gl 4 3 13 [2] [7] ca cb) s0 5:=by
  refine ⟨by simp,fun n hn=> ?_,fun n hn=> ?_,by simp [Hp.ok,Ob.ok,SV.aF,SV.ok,eY],by simp [gl,s0,Hp.ok,Ob.ok,SV.aF,SV.ok,pc]⟩
  ·simp only [List.map_cons,List.map_nil,List.mem_cons,List.not_mem_nil,or_false] at hn;omega
  ·simp only [List.map_cons,List.map_nil,List.mem_cons,List.not_mem_nil,or_false] at hn
   rcases hn with rfl | rfl <;> simp [gl,s0,af,bq]
 have hsb:=BO (y:=4) (b:=0) (q:=1) (k:=5) hl hM s0 hy rfl hO
 have hsubF:HSub ((0,.box 55 [ops l,.mp 1])::(1,.map (aN Dt.cells iv M) c)::gl 4 3 13 [2] [7] ca cb s0) ((4,.l5 13 [2] [.ptr 3 0] [7] ca cb .ready none)::[(3,.box 62 [.gs 2 0]),(2,.arr 3 1 0 []),(0,.box 55 [ops l,.mp 1]),(1,.map (aN Dt.cells iv M) c)]):=by
  intro n ob hn
  match n with
  | 0 | 1 | 2 | 3 | 4=>simpa [gl,s0,af,pc] using hn
  | n+5=>simp [gl,s0,af,bq] at hn
 have hsc:=(hsb.here (fun n=>decide (n<5)) (fun n hn=> ?_) (by simp [SV.aF,SV.ok]) (by simp [gl,s0,Hp.ok,Ob.ok,SV.aF,SV.ok,eY,pc]) ?_).frame hsubF
 ·refine hsc.mono ?_
  rintro r F' ⟨F1,⟨rfl,xs,s',hon,hpre,hall,⟨hn0,tY⟩,rfl⟩,rfl⟩
  have hl':=zh hon
  have hxs:=hall rfl
  obtain ⟨L,rn,pJ,rU⟩:=s'
  have hL:L=jX l:=by rw [show jX l=xs from hxs.symm];simpa [s0] using hl'
  have hn0:rn≠0:=fun e=>by simp [gl,e,af] at hn0
  have tY:rn≠1:=fun e=>by simp [gl,e,af] at tY
  rw [← hL]
  have hlk:=gO (ro:=false) (h:=(4,.l5 13 [2] [.ptr 3 0] [7] ca cb .ready none)::[(3,.box 62 [.gs 2 0]),(2,.arr 3 1 0 []),(0,.box 55 [ops l,.mp 1]),(1,.map (aN Dt.cells iv M) c)]) (F:=(0,.box 55 [ops l,.mp 1])::(1,.map (aN Dt.cells iv M) c)::gl 4 3 13 [2] [7] ca cb s0) (F':=(0,.box 55 [ops l,.mp 1])::(1,.map (aN Dt.cells iv M) c)::gl 4 3 13 [2] [7] ca cb ⟨L,rn,pJ,rU⟩) hsubF (fun h=>by cases h)
  generalize bn false _ _ _=G at hlk
  have hG:∀ n ob,lk ((0,Ob.box 55 [ops l,.mp 1])::(1,.map (aN Dt.cells iv M) c)::gl 4 3 13 [2] [7] ca cb ⟨L,rn,pJ,rU⟩) n=some ob→lk G n=some ob:=fun n ob h=>by
   rw [hlk,eE (.inr (by rw [h];simp)),h]
  refine ⟨none,hG 4 _ (by simp [gl,af,jT]),?_⟩
  refine SW.weak (fun n=>if n=2 then rn else n) (st1:=⟨[(2,.ptr 3 0)],[(3,.box 62 [.gs 2 L.length]),(2,.arr 3 1 L.length (pc L)),(0,.box 55 [ops l,.mp 1]),(1,.map (aN Dt.cells iv M) c)],6⟩) ?_ ?_
  ·have q3:=hG 3 (.box 62 [.gs rn L.length]) (by simp [gl,af])
   have q2:=hG rn (.arr 3 1 L.length (pc L)) (by simp [gl,af,hn0,tY,pJ,rU])
   have q0:=hG 0 (.box 55 [ops l,.mp 1]) (by simp [af])
   have q1:=hG 1 (.map (aN Dt.cells iv M) c) (by simp [af])
   refine ⟨by show 2≤6;omega,fun n hn=>if_neg (by omega),?_,?_,?_⟩
   ·simp [bf,List.lookup,SV.aP,SV.ok]
   ·simp [vY,cU,Ob.aP,SV.aM,SV.aP,SV.dW,SV.cm,Ob.ok,SV.aF,SV.ok,q3,q2,q0,q1,pJ,oD,jc,iT,eY]
   ·intro a ha b hb e
    simp only [List.map_cons,List.map_nil,List.mem_cons,List.not_mem_nil,or_false] at ha hb
    rcases ha with rfl | rfl | rfl | rfl <;> rcases hb with rfl | rfl | rfl | rfl <;> simp at e <;> first | rfl | omega
  ·refine SW.seq ?_
   refine SW.g0 [0,1,2,4,5,6,7] mixed U ?_
   refine SW.ret ?_
   exact End.mk (aR 2 L.length L::oX l M c 0 1) (h4:=⟨rfl,rfl⟩) (h6:=by simp [Hp.ok,Ob.ok,SV.aF,SV.ok,jc,eY])
 ·match n,hn with
  | 0,_ | 1,_ | 2,_ | 3,_ | 4,_=>simp [gl,s0,af]
  | n +5,h=>
    have:n+5<5:=by simpa using h
    omega
 ·rintro r F' _ h1 h2
  refine ⟨SV.gP (fun n hn=> ?_) _ h1,Hp.gw (fun n hn=> ?_) h2⟩ <;> (simp at hn ⊢;omega)
end
section
attribute [local irreducible] SW RW bB SC ai aa
def kU (l:List ah)(i:Nat):ah:=l.getD i ah.zero
theorem ya {l:List ah}{i:Nat}{x:ah}(h:l[i]? =some x):kU l i=x:=by simp [kU,List.getD_eq_getElem?_getD,h]
theorem rq {l:List ah}{i:Nat}(h:i<l.length):l[i]? =some (kU l i):=by simp [kU,List.getD_eq_getElem?_getD,List.getElem?_eq_getElem h]
def EX (l:List ah)(o:ah):Nat:=((zg l o.dot).getD 0).toNat
def nO (l:List ah):List Nat:=(lg l).map (EX l)
theorem pZ {l:List ah}{i:Nat}:i∈jX l↔i<l.length∧jW l i=true:=by
 unfold jX mQ
 rw [List.mem_filter,List.mem_range]
theorem ru {l:List ah}{i:Nat}(h:jW l i=true):zg l (kU l i).dot=some (i:Int):=by
 unfold jW at h
 cases hx:l[i]? with
 | none=>rw [hx] at h;cases h
 | some x=>
  rw [hx] at h
  rw [ya hx]
  simpa using h
theorem BQ {l:List ah}{i:Nat}(h:jW l i=true):EX l (kU l i)=i:=by
 unfold EX
 rw [ru h];simp
theorem FY {l:List ah}{d:Dt}{i:Nat}:zg l d=some (i:Int)↔l.findIdx? (fun o=>decide (o.dot=d))=some i:=by
 unfold zg
 cases l.findIdx? (fun o=>decide (o.dot=d)) with
 | none=>simp
 | some j=>simp;omega
theorem zi {l:List ah}{i:Nat}{x:ah}(h:l[i]? =some x):jW l i= !(dD (l.take i) x.dot).isSome:=by
 unfold jW
 rw [h]
 simp only
 have hi:=dw h
 rw [Bool.eq_iff_iff,decide_eq_true_eq]
 rw [FY]
 unfold dD
 cases hf:(l.take i).find? (fun o=>decide (o.dot=x.dot)) with
 | some o=>
  simp only [Option.isSome_some,Bool.not_true,Bool.false_eq_true,iff_false]
  intro hj
  obtain ⟨h1,h2,h3⟩:=List.findIdx?_eq_some_iff_getElem.1 hj
  have hm:=List.mem_of_find?_eq_some hf
  have hp:=List.find?_some hf
  obtain ⟨u,hu,he⟩:=List.mem_iff_getElem.1 hm
  have hu2:u<i:=by simp at hu;omega
  refine h3 u hu2 ?_
  rw [List.getElem_take] at he
  rw [he];exact hp
 | none=>
  simp only [Option.isSome_none,Bool.not_false,iff_true]
  rw [List.find?_eq_none] at hf
  rw [List.findIdx?_eq_some_iff_getElem]
  have hx:l[i]=x:=by rw [List.getElem?_eq_getElem hi] at h;injection h
  refine ⟨hi,by simp [hx],fun j hj=> ?_⟩
  refine hf _ (List.mem_iff_getElem.2 ⟨j,by simp;omega,?_⟩)
  rw [List.getElem_take]
theorem vC (l:List ah):∀ i,i≤l.length→(mQ l i).map (kU l)=gC (l.take i)
 | 0,_=>by simp [mQ,gC]
 | i+1,h=>by
  obtain ⟨x,hx⟩:=bR (show i<l.length by omega)
  rw [oH,eR hx,sO,zi hx,← vC l i (by omega)]
  cases (dD (l.take i) x.dot).isSome with
  | true=>simp
  | false=>simp [ya hx]
theorem yb (l:List ah):(jX l).map (kU l)=gC l:=by
 have:=vC l l.length (Nat.le_refl _)
 rwa [List.take_length] at this
theorem BR {l:List ah}{o:ah}(h:o∈gC l):kU l (EX l o)=o∧EX l o∈jX l:=by
 rw [← yb] at h
 obtain ⟨i,hi,rfl⟩:=List.mem_map.1 h
 rw [BQ (pZ.1 hi).2]
 exact ⟨rfl,hi⟩
theorem vD (l:List ah):(nO l).map (kU l)=lg l:=by
 unfold nO
 rw [List.map_map]
 have:∀ o,o∈lg l→(kU l ∘ EX l) o=o:=fun o ho=>(BR ((qI l).mem_iff.1 ho)).1
 rw [List.map_congr_left this]
 simp
theorem oI (l:List ah):(nO l).Perm (jX l):=by
 unfold nO
 refine ((qI l).map (EX l)).trans ?_
 rw [← yb,List.map_map]
 have:∀ i,i∈jX l→(EX l ∘ kU l) i=i:=fun i hi=>BQ (pZ.1 hi).2
 rw [List.map_congr_left this]
 simp
theorem BS (l:List ah):(nO l).length=(jX l).length:=(oI l).length_eq
def EY (l:List ah)(i j:Nat):Int:=pI (kU l i) (kU l j)
def Ik (l:List ah)(i:Nat):Prop:=i<l.length∧jW l i=true
theorem BT (l:List ah):Rw (Ik l) (jX l):=⟨fun i hi=>pZ.1 hi,List.Nodup.sublist List.filter_sublist List.nodup_range⟩
theorem yc (l:List ah):HK (EY l) (Ik l) where
 asym x y _ _ h1 h2:=by
  rw [EY,kB] at h1 h2
  have:=ah.lt_trans h1 h2
  rw [ah.lt_irrefl] at this;cases this
 trans x y z _ _ _ h1 h2:=by
  rw [EY,kB] at*
  exact ah.lt_trans h1 h2
 tot x y hx hy hne:=by
  rw [EY,EY,kB,kB]
  refine ah.nA fun e=>hne ?_
  have h1:=ru hx.2
  have h2:=ru hy.2
  rw [e,h2] at h1
  injection h1 with h1
  omega
theorem BU (l:List ah):gH (EY l) (nO l) 0 (nO l).length:=fun p q _ h2 h3=>by
 have hr:=uX l
 unfold gb at hr
 rw [← vD,List.pairwise_map,List.pairwise_iff_getElem] at hr
 have:=hr p q (by omega) h3 h2
 unfold Lt EY
 rw [qR (List.getElem?_eq_getElem (show p<(nO l).length by omega)),qR (List.getElem?_eq_getElem h3),kB]
 exact this
theorem Hz (l:List ah)(M:MM Dt Int)(c b q:Nat)(tX:b≠q):jV Tryz.prog order_index_compare.f [aW l q] (oX l M c b q) (EY l) (Ik l) where
 tot:=yc l
 call x y k hx hy _:=vA l (rq hx.1) (rq hy.1) q k
 fo:=by simp [SV.aF,SV.ok,aW,af,tX.symm]
 nd:=by simp [tX]
 cl:=by simp [Hp.ok,Ob.ok,SV.aF,SV.ok,af,tX.symm,eY]
theorem ry {l:List ah}{M:MM Dt Int}{c:Nat}(hl:l.length≤1048576)(hM:x_ M l)(b q:Nat)(tX:b≠q)(k:Nat):
  bB Tryz.prog slices_AppendSeq_Lint_int.f [.d .aY,.fn (.func order_index_once_1.f) [] [.ptr b 0]] (oX l M c b q) k 1 (.gs k (jX l).length) (aR k (jX l).length (jX l)::oX l M c b q):=by
 have h:=SB.oW [b,q] (wW (c:=c) hl hM) (by simp [tX]) (fun i hi=>by
  match i,hi with
  | 0,_ | 1,_=>simp [af]) k
 simp only [Hp.aP,Ob.aP,SV.aP,SV.aM,List.map_cons,List.map_nil,oD,iT] at h
 have e:iA [b,q] k 2=k:=by simp [iA]
 simpa [iA,e] using h
theorem vE {l:List ah}{M:MM Dt Int}{c:Nat}(hl:l.length≤1048576)(hM:x_ M l):
  SB Tryz.prog slices_Collect_int.f [.fn (.func order_index_once_1.f) [] [.ptr 0 0]] (oX l M c 0 1) 2 1
   fun r F=>r= .gs 2 (jX l).length∧F=aR 2 (jX l).length (jX l)::oX l M c 0 1:=by
 refine slices_Collect_int.enter (by simp [SV.ok,SV.aF]) (by simp [Hp.ok,Ob.ok,SV.aF,SV.ok,eY]) (by simp) ?_
 dsimp only [slices_Collect_int.s,Co.M,Co.G,Co.J,Co.H,Co.N,Co.F,Co.C,Co.Z,Co.B,Co.b8,Co.aJ,Co.b_,Co.i6,Co.z8,Co.cn]
 refine SW.seq ?_
 refine SW.g1 [0,2] mixed U (ry (c:=c) hl hM 0 1 (by decide) 2) ?_
 refine SW.seq ?_
 refine SW.g1 [0,2] mixed U (ry (c:=c) hl hM 0 1 (by decide) 2) ?_
 refine SW.ret ?_
 exact End.mk (aR 2 (jX l).length (jX l)::oX l M c 0 1) (h4:=⟨rfl,rfl⟩) (h6:=by simp [Hp.ok,Ob.ok,SV.aF,SV.ok,jc,eY])
theorem o9 {l:List ah}{M:MM Dt Int}{c:Nat}(hl:l.length≤1048576)(hM:x_ M l)(b q:Nat)(tX:b≠q)(k:Nat):
  bB Tryz.prog slices_Collect_int.f [.fn (.func order_index_once_1.f) [] [.ptr b 0]] (oX l M c b q) k 1 (.gs k (jX l).length) (aR k (jX l).length (jX l)::oX l M c b q):=by
 have h:=SB.oW [b,q] (vE (c:=c) hl hM) (by simp [tX]) (fun i hi=>by
  match i,hi with
  | 0,_ | 1,_=>simp [af]) k
 simp only [Hp.aP,Ob.aP,SV.aP,SV.aM,List.map_cons,List.map_nil,oD,iT] at h
 have e:iA [b,q] k 2=k:=by simp [iA]
 simpa [iA,e] using h
set_option maxHeartbeats 1000000 in
theorem wX {l:List ah}{M:MM Dt Int}{c:Nat}(IL:l.length<256)(hM:x_ M l):
  SB Tryz.prog slices_SortedFunc_int.f [.fn (.func order_index_once_1.f) [] [.ptr 0 0],gj order_index_compare.f [aW l 1]] (oX l M c 0 1) 2 1
   fun r F=>r= .gs 2 (jX l).length∧F=aR 2 (jX l).length (nO l)::oX l M c 0 1:=by
 refine slices_SortedFunc_int.enter (by simp [SV.ok,SV.aF,aW]) (by simp [Hp.ok,Ob.ok,SV.aF,SV.ok,eY]) (by simp) ?_
 have hl:l.length≤1048576:=by omega
 dsimp only [slices_SortedFunc_int.s,Co.M,Co.G,Co.J,Co.H,Co.N,Co.F,Co.C,Co.Z,Co.B,Co.b8,Co.aJ,Co.b_,Co.i6,Co.z8,Co.cn]
 have hc:=Hz l M c 0 1 (by decide)
 have ha:At (oX l M c 0 1) 2 3:=⟨by simp [af,bq],by decide,by simp [Hp.ok,Ob.ok,SV.aF,SV.ok,eY]⟩
 have hpl:=ue l
 refine SW.seq ?_
 refine SW.g1 [0,1,4,5] mixed U (o9 (c:=c) hl hM 0 1 (by decide) 2) ?_
 refine SW.seq ?_
 refine SW.g1 [0,1,4,5] mixed U (o9 (c:=c) hl hM 0 1 (by decide) 2) ?_
 refine SW.seq (SW.lp ?_)
 (repeat (first | refine aK.op U (h:= ?_) | refine aK.aL U (h:= ?_) | refine aK.skip (h:= ?_)))
 refine aK.aG (BM hc ha (BT l) rfl (by omega)) (fun _ _ h=>h) (h:= ?_)
 rintro _ _ ⟨rfl,R',hp,r_,rfl⟩
 rw [oG hc ha]
 have hR:R'=nO l:=by
  refine gH.uniq (yc l) ((BT l).perm hp) (hp.trans (oI l).symm) ?_ (BU l)
  rw [hp.length_eq];exact r_
 subst hR
 refine aK.nil ?_
 refine SW.seq ?_
 refine SW.g0 [0,1,4,5] mixed U ?_
 refine SW.ret ?_
 exact End.mk (aR 2 (jX l).length (nO l)::oX l M c 0 1) (h4:=⟨rfl,rfl⟩) (h6:=by simp [Hp.ok,Ob.ok,SV.aF,SV.ok,jc,eY])
theorem wY {l:List ah}{M:MM Dt Int}{c:Nat}(hl:l.length<256)(hM:x_ M l)(b q:Nat)(tX:b≠q)(k:Nat):
  bB Tryz.prog slices_SortedFunc_int.f [.fn (.func order_index_once_1.f) [] [.ptr b 0],gj order_index_compare.f [aW l q]] (oX l M c b q) k 1 (.gs k (jX l).length) (aR k (jX l).length (nO l)::oX l M c b q):=by
 have h:=SB.oW [b,q] (wX (c:=c) hl hM) (by simp [tX]) (fun i hi=>by
  match i,hi with
  | 0,_ | 1,_=>simp [af]) k
 simp only [aW,Hp.aP,Ob.aP,SV.aP,SV.aM,List.map_cons,List.map_nil,oD,iT] at h
 have e:iA [b,q] k 2=k:=by simp [iA]
 simpa [iA,e,aW] using h
end
section
attribute [local irreducible] SW RW bB SC ai aa
theorem DY (l:List ah):SB Tryz.prog order_index_once.f [aW l 0] [] 1 1 fun r F=>r= .fn (.func order_index_once_1.f) [] [.ptr 1 0]∧F=[(1,.box 55 [ops l,.mp 0])]:=by
 refine order_index_once.enter (by simp [aW,SV.ok,SV.aF]) (by simp [Hp.ok]) (by simp) ?_
 unfold aW
 dsimp only [order_index_once.s,Co.M,Co.G,Co.J,Co.H,Co.N,Co.F,Co.C,Co.Z,Co.B,Co.b8,Co.aJ,Co.b_,Co.i6,Co.z8,Co.cn]
 refine SW.seq ?_
 refine SW.g0 [0,1,2] mixed U ?_
 refine SW.seq ?_
 refine SW.g0 [0,1,2] mixed U ?_
 refine SW.ret ?_
 exact End.mk [(1,.box 55 [ops l,.mp 0])] (h4:=⟨rfl,rfl⟩) (h5:=by simp [gI,SV.ok,SV.aF]) (h6:=by simp [Hp.ok,Ob.ok,SV.aF,SV.ok])
theorem DZ (l:List ah)(q k:Nat):bB Tryz.prog order_index_once.f [.agg [ops l,.mp q]] [] k 1 (.fn (.func order_index_once_1.f) [] [.ptr k 0]) [(k,.box 55 [ops l,.mp q])]:=by
 have h:=SB.at (DY l) (fun n=>if n=0 then q else k) k (fun n m h1 h2 _=>by omega) (fun n hn p μ M w vals hr hS=>by
  obtain ⟨u,us,e,r1,r2⟩:=aQ.aI.1 hr
  obtain ⟨vs,_,r3⟩:=Rp.c8.1 r1
  obtain ⟨u1,us1,e1,r4,r5⟩:=aQ.aI.1 r3
  obtain ⟨u2,us2,e2,r6,r7⟩:=aQ.aI.1 r5
  have:=Rp.FX r6
  have hn0:n=0:=by omega
  subst hn0
  simpa using this) (fun i hi=>by simp;omega)
 unfold bB
 refine SC.mono h ?_
 rintro r F ⟨r0,F0,⟨rfl,rfl⟩,rfl,rfl⟩
 exact ⟨by simp [SV.aP,SV.aM],by simp [Hp.aP,Ob.aP,SV.aM,SV.aP]⟩
theorem rz (l:List ah)(hl:l.length<4611686018427387904):SC Tryz.prog order_indexOf.f [ops l] [] 0 3 fun r F=>r=aW l 1∧∃ M c,(x_ M l∧(MM.keys M).Nodup)∧F=[(1,.map (aN Dt.cells iv M) c)]:=
 (wV l hl).here (fun _=>false) (fun n hn=>by cases hn) (by simp [SV.aF,SV.ok,SV.cm]) (by simp [Hp.ok]) (by
  rintro r F ⟨rfl,M,c,_,rfl⟩ _ _
  exact ⟨by simp [aW,SV.ok,SV.aF],by simp [Hp.ok,Ob.ok,eY]⟩)
set_option maxHeartbeats 4000000 in
theorem BV (l:List ah)(hl:l.length<256):Go.Sl.Pure Tryz.prog order_Sort.f [ops l] (ops (lg l)):=by
 refine order_Sort.enter (by first | rfl | simp [SV.ok,SV.aF]) (by first | rfl | simp [Hp.ok,Ob.ok,SV.ok,SV.aF,ag.an]) (by simp) ?_
 dsimp only [order_Sort.s,Co.M,Co.G,Co.J,Co.H,Co.N,Co.F,Co.C,Co.Z,Co.B,Co.b8,Co.aJ,Co.b_,Co.i6,Co.z8,Co.cn]
 refine SW.seq ?_
 (refine SW.au [0,2,3,4,6,13,14,15,16] mixed ?_;(repeat (first | refine RW.ro U (h:= ?_) | refine RW.skip (h:= ?_) | refine RW.op U (h:= ?_) | refine RW.aL U (h:= ?_) | refine RW.aj (h:= ?_) | refine dZ rfl rfl (h:= ?_)));refine RW.nil ⟨aD (by kernel_rfl),aa.mk (h:= ?_)⟩)
 refine SW.seq (SW.lp ?_)
 (repeat (first | refine aK.op U (h:= ?_) | refine aK.aL U (h:= ?_) | refine aK.skip (h:= ?_)))
 refine aK.aG (rz l (by omega)) (HSub.nil _) (h:= ?_)
 rintro _ _ ⟨rfl,M,c,⟨hM,hK⟩,rfl⟩
 simp only [aW]
 simp only [bn,bz,bA,cw,cB,bL,lk,List.lookup,Nat.reduceBEq,BEq.rfl,beq_self_eq_true,if_true,if_false,reduceIte,Nat.reduceEqDiff,Bool.false_eq_true,Option.isSome_some,Option.isSome_none,Nat.reduceAdd]
 have s1:bV [SV.d .aY,SV.d .ir] 0 [ops l,.mp 1]=[ops l,.mp 1]:=rfl
 have s2:bV (bV [SV.d .aY,SV.d .ir] 0 [ops l]) 1 [SV.mp 1]=[ops l,.mp 1]:=rfl
 (repeat (first | refine aK.op (And.intro (s1) (s2)) (h:= ?_) | refine aK.aL (And.intro (s1) (s2)) (h:= ?_) | refine aK.skip (h:= ?_)))
 refine aK.nil ?_
 have hops:=vD l
 have hmem:∀ i,i∈nO l→i<l.length:=fun i hi=>(pZ.1 ((oI l).mem_iff.1 hi)).1
 have hS:=wY (c:=c) hl hM 5 1 (by decide) 6
 have hLl:=BS l
 have hLb:=ue l
 rw [← hLl] at hS hLb
 generalize nO l=L at hS hops hmem hLb
 clear hLl
 refine SW.seq ?_
 (refine SW.au [0,2,3,4,6,13,14,15,16] mixed ?_;(repeat (first | refine RW.ro U (h:= ?_) | refine RW.skip (h:= ?_) | refine RW.op U (h:= ?_) | refine RW.aL U (h:= ?_) | refine RW.aj (h:= ?_) | refine dZ rfl rfl (h:= ?_)));refine RW.nil ⟨aD (by kernel_rfl),aa.mk (h:= ?_)⟩)
 refine SW.kZ 4 51 29 rfl ?_
 refine SW.seq (SW.seq ?_)
 (refine SW.au [0,2,3,4,6,13,14,15,16] mixed ?_;(repeat (first | refine RW.ro U (h:= ?_) | refine RW.skip (h:= ?_) | refine RW.op U (h:= ?_) | refine RW.aL U (h:= ?_) | refine RW.aj (h:= ?_) | refine dZ rfl rfl (h:= ?_) | (refine RW.aG (h:= ?_);(first | refine ai.mk U (hc:=DZ l 1 5) (h:= ?_) | refine ai.mk U (hc:=hS) (h:= ?_)))));refine RW.nil ⟨aD (by kernel_rfl),aa.mk (h:= ?_)⟩)
 refine SW.block ?_
 refine SW.fI (α:={j:Nat // j≤L.length}) (fun j=>⟨[(15,i64 (j.1:Nat)),(13,.gs 6 L.length),(14,i64 (L.length:Nat)),(4,.gs 4 (L.take j.1).length),(0,ops l)],[(4,.arr 51 29 (L.take j.1).length (uU ((L.take j.1).map (kU l)))),(6,.arr 3 1 L.length (pc L))],7⟩) (fun j=>L.length - j.1) ⟨0,Nat.zero_le _⟩ id (And.intro (jc (fun n=>decide (n<7)) L) (oD id L)) (round:= ?_)
 rintro ⟨j,hj⟩
 dsimp only
 by_cases h:j<L.length
 ·have h1:decide ((j:Int)<L.length)=true:=by simp only [decide_eq_true_eq];omega
  obtain ⟨i,hi⟩:∃ i,L[j]? =some i:=⟨L[j],List.getElem?_eq_getElem h⟩
  have hx:=rq (hmem i (List.mem_of_getElem? hi))
  have hil:=hmem i (List.mem_of_getElem? hi)
  have e2:IntKind.i64.wrap ((j:Int)+1)=((j+1:Nat):Int):=wrap_i64 _ (by omega)
  have e1:L.take (j+1)=L.take j++[i]:=by
   rw [List.take_add_one,hi];rfl
  have hlen:(L.take j).length=j:=by simp;omega
  generalize L.take j=T at e1 hlen ⊢
  generalize hxx:kU l i=x at hx
  refine SW.seq ?_
  (refine SW.au [0,2,3,4,6,13,14,15,16] mixed ?_;(repeat (first | refine RW.ro (h1) (h:= ?_) | refine RW.skip (h:= ?_) | refine RW.op (h1) (h:= ?_) | refine RW.aL (h1) (h:= ?_) | refine RW.aj (h:= ?_) | refine dZ rfl rfl (h:= ?_)));refine RW.nil ⟨aD (by kernel_rfl),aa.mk (h:= ?_)⟩)
  refine SW.seq (SW.aC rfl (SW.skip ?_))
  refine SW.seq (SW.block (SW.seq ?_))
  (refine SW.au [0,2,3,4,6,13,14,15,16] mixed ?_;(repeat (first | refine RW.ro (aO hi) (h:= ?_) | refine RW.skip (h:= ?_) | refine RW.op (aO hi) (h:= ?_) | refine RW.aL (aO hi) (h:= ?_) | refine RW.aj (h:= ?_) | refine dZ rfl rfl (h:= ?_)));refine RW.nil ⟨aD (by kernel_rfl),aa.mk (h:= ?_)⟩)
  (have fx:=(And.intro (eX hx) (bQ hx));refine SW.au [0,2,3,4,6,13,14,15,16] mixed ?_;(repeat (first | refine RW.ro fx (h:= ?_) | refine RW.skip (h:= ?_) | refine RW.op fx (h:= ?_) | refine RW.aL fx (h:= ?_) | refine RW.aj (h:= ?_) | refine dZ rfl rfl (h:= ?_)));refine RW.nil ⟨aD (by kernel_rfl),aa.mk (h:= ?_)⟩)
  (refine SW.au [0,2,3,4,6,13,14,15,16] mixed ?_;(repeat (first | refine RW.ro (e2) (h:= ?_) | refine RW.skip (h:= ?_) | refine RW.op (e2) (h:= ?_) | refine RW.aL (e2) (h:= ?_) | refine RW.aj (h:= ?_) | refine dZ rfl rfl (h:= ?_)));refine RW.nil ⟨aD (by kernel_rfl),aa.mk (h:= ?_)⟩)
  have e5:(T++[i]).length=T.length+ [x].length:=by simp
  have e6:uU ((T++[i]).map (kU l))=uU (T.map (kU l))++List.map SV.d ([x].flatMap ah.ds):=by simp [hxx,uU]
  refine ⟨⟨j+1,by omega⟩,fun n=>if n=4 then 7 else n,by show L.length - (j+1)<_;omega,?_⟩
  dsimp only
  rw [e1,e5,e6]
  exact bk.mk (And.intro (jc (fun n=>decide (n<7)) L) (oD (fun n=>if n=4 then 7 else n) L))
 ·have h1:decide ((j:Int)<L.length)=false:=by simp only [decide_eq_false_iff_not];omega
  have hjl:j=L.length:=by omega
  subst hjl
  rw [List.take_length,hops]
  refine SW.seq ?_
  (refine SW.au [0,2,3,4,6,13,14,15,16] mixed ?_;(repeat (first | refine RW.ro (h1) (h:= ?_) | refine RW.skip (h:= ?_) | refine RW.op (h1) (h:= ?_) | refine RW.aL (h1) (h:= ?_) | refine RW.aj (h:= ?_) | refine dZ rfl rfl (h:= ?_)));refine RW.nil ⟨aD (by kernel_rfl),aa.mk (h:= ?_)⟩)
  refine SW.seq (SW.ay rfl (SW.exit ?_))
  refine SW.seq ?_
  (refine SW.au [0,2,3,4,6,13,14,15,16] mixed ?_;(repeat (first | refine RW.ro U (h:= ?_) | refine RW.skip (h:= ?_) | refine RW.op U (h:= ?_) | refine RW.aL U (h:= ?_) | refine RW.aj (h:= ?_) | refine dZ rfl rfl (h:= ?_)));refine RW.nil ⟨aD (by kernel_rfl),aa.mk (h:= ?_)⟩)
  refine SW.freeze 4 ((lg l).flatMap ah.ds) rfl rfl ?_
  simp only [mL,SV.kW,List.map_cons,List.map_nil,if_true,if_false,reduceIte,bL,Nat.reduceEqDiff]
  have:L.length=(lg l).length:=by rw [← hops];simp
  rw [this]
  refine SW.ret ?_
  exact End.mk [] (h4:=⟨rfl,rfl⟩)
theorem BW (l:List ah)(hl:l.length<256)(k:Nat):bB Tryz.prog order_Sort.f [ops l] [] k 0 (ops (lg l)) []:=(BV l hl).sc rfl k
end
end Go.Proofs.YtnakpdoioammhaaGreatDoor
