/-
 Spends: the document's answers: what was spent, rows that rise.
-/
import Derived.Test.YtefjaphfnkbbkaaUK
import Derived.Test.YtefjaphfnkbbkaaUV
import Derived.Test.YtefjaphfnkbbkaaUH
import Derived.Test.YtefjaphfnkbbkaaU9
set_option linter.unusedSectionVars false
set_option linter.unusedVariables false
set_option linter.unusedSimpArgs false
namespace Go.Proofs.Ytefjaphfnkbbkaa
open Go.Sl Go.Proofs
section
attribute [local irreducible] SW RW bp SC af aa
theorem Dt.z_ (l:List Dt):(Dt.set l).length≤l.length:=by
 rw [← Dt.ry];exact Dt.xw l
@[simp] theorem Sp.IJ (d:Dt):(bE Sp.zero.cells 0 d.cells).length=3:=rfl
def bL (l:List Sp)(d:Dt):Option Sp:=l.find? fun x=>decide (x.d=d)
def aU (l:List Sp)(d:Dt):Nat:=((bL l d).map (·.n)).getD 0
theorem xx {l:List Sp}{d:Dt}{i:Nat}{x:Sp}(hx:l[i]? =some x)(h:bL (l.take i) d=none):bL (l.take (i+1)) d=if x.d=d then some x else none:=by
 unfold bL at*
 rw [bQ hx,List.find?_append,h]
 by_cases e:x.d=d <;> simp [e]
theorem y6 {l:List Sp}{d:Dt}{i:Nat}{x:Sp}(hx:l[i]? =some x)(h:bL (l.take i) d=none)(he:x.d=d):bL l d=some x:=by
 unfold bL at*
 have hl:l=l.take i++x::l.drop (i+1):=by
  conv=>lhs;rw [← List.take_append_drop i l]
  congr 1
  rw [List.drop_eq_getElem_cons (bq hx)]
  congr 1
  rw [List.getElem?_eq_getElem (bq hx)] at hx
  injection hx
 rw [hl,List.find?_append,h]
 simp [he]
theorem og (d:Dt):bL [] d=none:=rfl
theorem gU (x:Sp)(l:List Sp)(d:Dt):bL (x::l) d=if x.d=d then some x else bL l d:=by
 unfold bL
 rw [List.find?_cons]
 by_cases h:x.d=d <;> simp [h]
theorem iC {l:List Sp}{d:Dt}{x:Sp}(h:bL l d=some x):x∈l∧x.d=d:=⟨List.mem_of_find?_eq_some h,by simpa using List.find?_some h⟩
theorem tf (l m:List Sp)(d:Dt):bL (l++m) d=(bL l d).or (bL m d):=List.find?_append
theorem A8 (l:List Sp)(hl:l.length<4611686018427387904)(d:Dt):Go.Sl.Pure Try.prog ref22_Spent.f [cF l,.agg d.cells] (.d (.int .u64 (aU l d:Int))):=by
 refine ref22_Spent.enter (by first | rfl | simp [SV.ok,SV.aI]) (by first | rfl | simp [Hp.ok,Ob.ok,SV.ok,SV.aI,aS.aj]) (by simp) ?_
 dsimp only [ref22_Spent.s,Co.M,Co.G,Co.J,Co.H,Co.N,Co.F,Co.C,Co.Z,Co.B,Co.b8,Co.aA,Co.bz,Co.i6,Co.z8,Co.dm]
 refine SW.seq ?_
 refine SW.g0 [0,1,3,4,5,9,18] mixed U ?_
 refine SW.seq (SW.seq ?_)
 refine SW.g0 [0,1,3,4,5,9,18] mixed U ?_
 refine SW.block ?_
 refine SW.c8 (α:={i:Nat // i≤l.length∧bL (l.take i) d=none}) (fun i=>⟨[(5,i64 i.1),(0,cF l),(3,.ptr 0 0)],[(0,.box 29 d.cells)],1⟩) (fun i=>l.length - i.1) ⟨0,by omega,rfl⟩ id U (round:= ?_)
 rintro ⟨i,hi,hs⟩
 by_cases h:i<l.length
 ·have h1:decide ((i:Int)<l.length)=true:=by simp only [decide_eq_true_eq];omega
  obtain ⟨x,hx⟩:=aL h
  have e2:IntKind.i64.wrap ((i:Int)+1)=((i+1:Nat):Int):=wrap_i64 _ (by omega)
  by_cases he:x.d=d
  ·have e3:decide (x.d=d)=true:=by simp [he]
   (repeat (first | refine SW.seq ?_ | refine SW.block ?_ | refine SW.g0 [0,1,3,4,5,9,18] mixed (And.intro (h1) (And.intro (yw hx) (And.intro (sx hx) (And.intro (As hx) (And.intro (e2) (e3)))))) ?_ | refine SW.skip ?_ | refine SW.exit ?_ | refine SW.ret ?_ | refine SW.au rfl ?_ | refine SW.ak rfl ?_))
   have hf:aU l d=x.n:=by unfold aU;rw [y6 hx hs he];rfl
   rw [hf]
   exact End.mk [] (h4:=⟨rfl,rfl⟩)
  ·have e3:decide (x.d=d)=false:=by simp [he]
   (repeat (first | refine SW.seq ?_ | refine SW.block ?_ | refine SW.g0 [0,1,3,4,5,9,18] mixed (And.intro (h1) (And.intro (yw hx) (And.intro (sx hx) (And.intro (e2) (e3))))) ?_ | refine SW.skip ?_ | refine SW.exit ?_ | refine SW.ret ?_ | refine SW.au rfl ?_ | refine SW.ak rfl ?_))
   dsimp only
   exact ⟨⟨i+1,by omega,by rw [xx hx hs,if_neg he]⟩,id,by show l.length - (i+1)<_;omega,bg.mk U⟩
 ·have h1:decide ((i:Int)<l.length)=false:=by simp only [decide_eq_false_iff_not];omega
  (repeat (first | refine SW.seq ?_ | refine SW.block ?_ | refine SW.g0 [0,1,3,4,5,9,18] mixed (h1) ?_ | refine SW.skip ?_ | refine SW.exit ?_ | refine SW.ret ?_ | refine SW.au rfl ?_ | refine SW.ak rfl ?_))
  have hf:aU l d=0:=by
   rw [List.take_of_length_le (by omega)] at hs
   unfold aU;rw [hs];rfl
  rw [hf]
  exact End.mk [] (h4:=⟨rfl,rfl⟩)
theorem mV (l:List Sp)(hl:l.length<4611686018427387904)(d:Dt)(k:Nat):bp Try.prog ref22_Spent.f [cF l,.agg d.cells] [] k 0 (.d (.int .u64 (aU l d:Int))) []:=(A8 l hl d).sc rfl k
theorem A9 (l m:List Sp)(hl:l.length<4611686018427387904)(hm:m.length<4611686018427387904):Go.Sl.Pure Try.prog ref22_Same.f [cF l,cF m] (bl (decide (l=m))):=by
 refine ref22_Same.enter (by first | rfl | simp [SV.ok,SV.aI]) (by first | rfl | simp [Hp.ok,Ob.ok,SV.ok,SV.aI,aS.aj]) (by simp) ?_
 dsimp only [ref22_Same.s,Co.M,Co.G,Co.J,Co.H,Co.N,Co.F,Co.C,Co.Z,Co.B,Co.b8,Co.aA,Co.bz,Co.i6,Co.z8,Co.dm]
 by_cases hn:l.length=m.length
 ·have h0:(((l.length:Nat):Int) != ((m.length:Nat):Int))=false:=by simp;omega
  (repeat (first | refine SW.seq ?_ | refine SW.block ?_ | refine SW.g0 [0,1,4,5,10,14,25] mixed (h0) ?_ | refine SW.skip ?_ | refine SW.exit ?_ | refine SW.ret ?_ | refine SW.au rfl ?_ | refine SW.ak rfl ?_))
  refine SW.c8 (α:={i:Nat // i≤l.length∧∀ j,j<i→l[j]? =m[j]?}) (fun i=>⟨[(5,i64 i.1),(0,cF l),(1,cF m)],[],0⟩) (fun i=>l.length - i.1) ⟨0,by omega,by omega⟩ id U (round:= ?_)
  rintro ⟨i,hi,hs⟩
  by_cases h:i<l.length
  ·have h1:decide ((i:Int)<l.length)=true:=by simp only [decide_eq_true_eq];omega
   obtain ⟨x,hx⟩:=aL h
   obtain ⟨y,hy⟩:=aL (show i<m.length by omega)
   have e2:IntKind.i64.wrap ((i:Int)+1)=((i+1:Nat):Int):=wrap_i64 _ (by omega)
   by_cases he:x=y
   ·have e3:decide (x=y)=true:=by simp [he]
    (repeat (first | refine SW.seq ?_ | refine SW.block ?_ | refine SW.g0 [0,1,4,5,10,14,25] mixed (And.intro (h1) (And.intro (su hx) (And.intro (su hy) (And.intro (e2) (e3))))) ?_ | refine SW.skip ?_ | refine SW.exit ?_ | refine SW.ret ?_ | refine SW.au rfl ?_ | refine SW.ak rfl ?_))
    refine Next.mk ⟨i+1,by omega,fun j hj=> ?_⟩ id U
    by_cases e:j=i
    ·rw [e,hx,hy,he]
    ·exact hs j (by omega)
   ·have e3:decide (x=y)=false:=by simp [he]
    (repeat (first | refine SW.seq ?_ | refine SW.block ?_ | refine SW.g0 [0,1,4,5,10,14,25] mixed (And.intro (h1) (And.intro (su hx) (And.intro (su hy) (And.intro (e2) (e3))))) ?_ | refine SW.skip ?_ | refine SW.exit ?_ | refine SW.ret ?_ | refine SW.au rfl ?_ | refine SW.ak rfl ?_))
    have:l≠m:=fun e=>by rw [e,hy] at hx;injection hx with hx;exact he hx.symm
    exact End.mk [] (h4:=⟨by simp [eF,this],rfl⟩)
  ·have h1:decide ((i:Int)<l.length)=false:=by simp only [decide_eq_false_iff_not];omega
   (repeat (first | refine SW.seq ?_ | refine SW.block ?_ | refine SW.g0 [0,1,4,5,10,14,25] mixed (h1) ?_ | refine SW.skip ?_ | refine SW.exit ?_ | refine SW.ret ?_ | refine SW.au rfl ?_ | refine SW.ak rfl ?_))
   have:l=m:=oO hn fun j hj=>hs j (by omega)
   exact End.mk [] (h4:=⟨by simp [eF,this],rfl⟩)
 ·have h0:(((l.length:Nat):Int) != ((m.length:Nat):Int))=true:=by simp;omega
  (repeat (first | refine SW.seq ?_ | refine SW.block ?_ | refine SW.g0 [0,1,4,5,10,14,25] mixed (h0) ?_ | refine SW.skip ?_ | refine SW.exit ?_ | refine SW.ret ?_ | refine SW.au rfl ?_ | refine SW.ak rfl ?_))
  have:l≠m:=fun e=>hn (by rw [e])
  exact End.mk [] (h4:=⟨by simp [eF,this],rfl⟩)
theorem kG (l m:List Sp)(hl:l.length<4611686018427387904)(hm:m.length<4611686018427387904)(k:Nat):bp Try.prog ref22_Same.f [cF l,cF m] [] k 0 (bl (decide (l=m))) []:=(A9 l m hl hm).sc rfl k
def oh (f:Dt→Nat)(D:List Dt):List Sp:=(D.filter fun d=>decide (0<f d)).map fun d=>⟨d,f d⟩
theorem A_ (f:Dt→Nat)(D:List Dt)(d:Dt):oh f (D++[d])=if 0<f d then oh f D++[⟨d,f d⟩] else oh f D:=by
 unfold oh
 rw [List.filter_append]
 by_cases h:0<f d <;> simp [h]
theorem xy (f:Dt→Nat)(D:List Dt):(oh f D).length≤D.length:=by
 unfold oh;rw [List.length_map];exact List.length_filter_le _ _
def fM (l:List Sp):List Sp:=oh (aU l) (Dt.set (l.map (·.d)))
theorem oq (l:List Sp):(fM l).length≤l.length:=by
 have h1:=xy (aU l) (Dt.set (l.map (·.d)))
 have h2:=Dt.z_ (l.map (·.d))
 rw [List.length_map] at h2
 exact Nat.le_trans h1 h2
set_option maxHeartbeats 4000000 in
theorem Ba (l:List Sp)(hl:l.length<100000)(hwf:∀ x,x∈l→x.d.wf):Go.Sl.Pure Try.prog ref22_Plain.f [cF l] (cF (fM l)):=by
 refine ref22_Plain.enter (by first | rfl | simp [SV.ok,SV.aI]) (by first | rfl | simp [Hp.ok,Ob.ok,SV.ok,SV.aI,aS.aj]) (by simp) ?_
 dsimp only [ref22_Plain.s,Co.M,Co.G,Co.J,Co.H,Co.N,Co.F,Co.C,Co.Z,Co.B,Co.b8,Co.aA,Co.bz,Co.i6,Co.z8,Co.dm]
 refine SW.seq ?_
 refine SW.g0 [0,2,3,4,5,6,7,11,27,37] mixed U ?_
 refine SW.seq ?_
 refine SW.g0 [0,2,3,4,5,6,7,11,27,37] mixed U ?_
 refine SW.nM 3 29 2 rfl ?_
 refine SW.seq (SW.seq ?_)
 refine SW.g0 [0,2,3,4,5,6,7,11,27,37] mixed U ?_
 refine SW.block ?_
 refine SW.c8 (α:={i:Nat // i≤l.length}) (fun i=>⟨[(4,i64 i.1),(0,cF l),(3,.gs 0 i.1)],[(0,.arr 29 2 i.1 ((((l.take i.1).map (·.d)).flatMap Dt.ds).map .d))],1⟩) (fun i=>l.length - i.1) ⟨0,by omega⟩ id U (round:= ?_)
 rintro ⟨i,hi⟩
 by_cases hil:i<l.length
 ·obtain ⟨x,hx⟩:=aL hil
  have h1:decide ((i:Int)<l.length)=true:=by simp;exact hil
  have e1:(l.take (i+1)).map (·.d)=(l.take i).map (·.d)++[x.d]:=by rw [bQ hx,List.map_append];rfl
  have e2:IntKind.i64.wrap ((i:Int)+1)=((i+1:Nat):Int):=wrap_i64 _ (by omega)
  refine SW.seq (SW.seq ?_)
  refine SW.g0 [0,2,3,4,5,6,7,11,27,37] mixed (h1) ?_
  refine SW.au rfl (SW.skip ?_)
  refine SW.seq (SW.block ?_)
  refine SW.g0 [0,2,3,4,5,6,7,11,27,37] mixed (And.intro (yw hx) (sx hx)) ?_
  refine SW.g0 [0,2,3,4,5,6,7,11,27,37] mixed (e2) ?_
  dsimp only
  exact ⟨⟨i+1,by omega⟩,fun n=>if n=0 then 1 else n,by show l.length - (i+1)<_;omega,bg.mk (And.intro e1 (And.intro (Dt.jm x.d) U))⟩
 ·have h1:decide ((i:Int)<l.length)=false:=by simp;omega
  have h2:i=l.length:=by omega
  refine SW.seq (SW.seq ?_)
  refine SW.g0 [0,2,3,4,5,6,7,11,27,37] mixed (h1) ?_
  refine SW.ak rfl (SW.exit ?_)
  subst h2
  rw [List.take_length]
  refine SW.freeze 0 ((l.map (·.d)).flatMap Dt.ds) rfl rfl ?_
  simp only [kU,SV.gu,List.map_cons,List.map_nil,if_true,if_false,reduceIte,dx,Nat.reduceEqDiff]
  have hml:(l.map (·.d)).length=l.length:=List.length_map ..
  have hso:=Dh (l.map (·.d)) (by omega) (fun d hd=>by obtain ⟨x,hx,rfl⟩:=List.mem_map.1 hd;exact hwf x hx)
  have IK:ic (l.map (·.d))= .d (.sl l.length ((l.map (·.d)).flatMap Dt.ds)):=by
   show SV.d (DV.sl (l.map (·.d)).length _)=_
   rw [hml]
  rw [IK] at hso
  have hDl:(Dt.set (l.map (·.d))).length≤l.length:=by have:=Dt.z_ (l.map (·.d));omega
  unfold fM
  generalize Dt.set (l.map (·.d))=D at hso hDl ⊢
  refine SW.weak id (st1:=⟨[(0,cF l),(3,.d (.sl l.length ((l.map (·.d)).flatMap Dt.ds)))],[],0⟩) (bg.mk U) ?_
  refine SW.seq ?_
  refine SW.g1 [0,2,3,4,5,6,7,11,27,37] mixed U hso ?_
  refine SW.seq ?_
  refine SW.g0 [0,2,3,4,5,6,7,11,27,37] mixed U ?_
  refine SW.nM 5 65 3 rfl ?_
  refine SW.seq (SW.seq ?_)
  refine SW.g0 [0,2,3,4,5,6,7,11,27,37] mixed U ?_
  refine SW.block ?_
  refine SW.c8 (α:={i:Nat // i≤D.length}) (fun i=>⟨[(6,i64 i.1),(0,cF l),(3,ic D),(5,.gs 0 (oh (aU l) (D.take i.1)).length)],[(0,.arr 65 3 (oh (aU l) (D.take i.1)).length (Hj (oh (aU l) (D.take i.1))))],1⟩) (fun i=>D.length - i.1) ⟨0,by omega⟩ id (And.intro (show oh (aU l) []=[] from rfl) U) (round:= ?_)
  rintro ⟨i,hi⟩
  dsimp only
  have hrl:=xy (aU l) (D.take i)
  have htl:(D.take i).length≤D.length:=by simp;omega
  by_cases hil:i<D.length
  ·obtain ⟨d,hd⟩:=aL hil
   have i1:decide ((i:Int)<D.length)=true:=by simp;exact hil
   have i2:IntKind.i64.wrap ((i:Int)+1)=((i+1:Nat):Int):=wrap_i64 _ (by omega)
   have e1:D.take (i+1)=D.take i++[d]:=bQ hd
   have jJ:=A_ (aU l) (D.take i) d
   rw [← e1] at jJ
   have hsp:=mV l (by omega) d
   generalize hR:oh (aU l) (D.take i)=R at jJ hrl
   generalize hn:aU l d=n at jJ hsp
   refine SW.seq (SW.seq ?_)
   refine SW.g1 [0,2,3,4,5,6,7,11,27,37] mixed (i1) hsp ?_
   refine SW.au rfl (SW.skip ?_)
   refine SW.seq (SW.block ?_)
   refine SW.seq ?_
   refine SW.g1 [0,2,3,4,5,6,7,11,27,37] mixed (gf hd) hsp ?_
   by_cases hp:0<n
   ·have p1:decide ((n:Int)>0)=true:=by simp;omega
    rw [if_pos hp] at jJ
    refine SW.seq ?_
    refine SW.g0 [0,2,3,4,5,6,7,11,27,37] mixed (p1) ?_
    refine SW.au rfl ?_
    refine SW.g0 [0,2,3,4,5,6,7,11,27,37] mixed (gf hd) ?_
    refine SW.g0 [0,2,3,4,5,6,7,11,27,37] mixed (i2) ?_
    dsimp only
    exact ⟨⟨i+1,by omega⟩,fun n=>if n=0 then 1 else n,by show D.length - (i+1)<_;omega,bg.mk (And.intro jJ (And.intro (Sp.jm ⟨d,n⟩) U))⟩
   ·have p1:decide ((n:Int)>0)=false:=by simp;omega
    rw [if_neg hp] at jJ
    refine SW.seq ?_
    refine SW.g0 [0,2,3,4,5,6,7,11,27,37] mixed (p1) ?_
    refine SW.ak rfl (SW.skip ?_)
    refine SW.g0 [0,2,3,4,5,6,7,11,27,37] mixed (i2) ?_
    dsimp only
    exact ⟨⟨i+1,by omega⟩,id,by show D.length - (i+1)<_;omega,bg.mk (And.intro jJ U)⟩
  ·have i1:decide ((i:Int)<D.length)=false:=by simp;omega
   have iD:i=D.length:=by omega
   subst iD
   rw [List.take_length]
   refine SW.seq (SW.seq ?_)
   refine SW.g0 [0,2,3,4,5,6,7,11,27,37] mixed (i1) ?_
   refine SW.ak rfl (SW.exit ?_)
   refine SW.seq ?_
   refine SW.g0 [0,2,3,4,5,6,7,11,27,37] mixed U ?_
   refine SW.freeze 0 ((oh (aU l) D).flatMap Sp.ds) rfl rfl (SW.ret ?_)
   exact End.mk [] (h4:=⟨by simp [eF,SV.gu],rfl⟩) (h5:=by simp [eF,SV.gu,SV.ok,SV.aI])
theorem Bb (l:List Sp)(hl:l.length<100000)(hwf:∀ x,x∈l→x.d.wf)(k:Nat):bp Try.prog ref22_Plain.f [cF l] [] k 0 (cF (fM l)) []:=(Ba l hl hwf).sc rfl k
end
section
attribute [local irreducible] SW RW bp SC af aa
def bM (a:MM Dt Cr)(s:List Sp)(d:Dt):Nat:=match MM.get a d with
 | some c=>c.cap - aU s d
 | none=>0
theorem lM {a:MM Dt Cr}{s:List Sp}{d:Dt}{c:Cr}(hg:MM.get a d=some c):bM a s d=c.cap - aU s d:=by
 unfold bM;rw [hg]
def bP (f:Dt→Nat)(a:Dt)(D:List Dt):Dt:=D.foldl (fun a d=>if f d<f a then d else a) a
theorem iE (f:Dt→Nat)(a:Dt)(D:List Dt)(d:Dt):bP f a (D++[d])=if f d<f (bP f a D) then d else bP f a D:=by
 unfold bP;rw [List.foldl_append];rfl
theorem qm (f:Dt→Nat)(a:Dt):∀ D:List Dt,bP f a D∈a::D:=fun D=>by
 induction D using ez with
 | nil=>simp [bP]
 | snoc D d ih=>
  rw [iE]
  split
  ·simp
  ·rcases List.mem_cons.1 ih with h | h
   ·rw [h];simp
   ·exact List.mem_cons_of_mem _ (List.mem_append_left _ h)
theorem xz (f:Dt→Nat)(a:Dt):∀ (D:List Dt) (d:Dt),d∈a::D→f (bP f a D)≤f d:=fun D=>by
 induction D using ez with
 | nil=>intro d hd;simp at hd;rw [hd];exact Nat.le_refl _
 | snoc D x ih=>
  intro d hd
  rw [iE]
  have h0:d∈a::D∨d=x:=by
   rcases List.mem_cons.1 hd with h | h
   ·exact .inl (by rw [h];simp)
   ·rcases List.mem_append.1 h with h | h
    ·exact .inl (List.mem_cons_of_mem _ h)
    ·exact .inr (by simpa using h)
  split
  ·rename_i hlt
   rcases h0 with h | h
   ·have:=ih d h;omega
   ·rw [h];exact Nat.le_refl _
  ·rename_i hlt
   rcases h0 with h | h
   ·exact ih d h
   ·rw [h];omega
theorem iT.Iq {l:List aq}{T:Tr}(h:iT l T):∀ (n:Nat) (d:Dt) (c:Cr),MM.get T.at_ d=some c→c.level=(n:Int)→c.cap≤1099511627776
 | n,d,c,hg,hn=>by
  obtain ⟨o,_,ho⟩:=h.cr d c hg
  rcases ho.how with ⟨_,_,e⟩ | ⟨p,q,hp,_,hb⟩
  ·rw [e];exact Nat.le_refl _
  ·obtain ⟨_,h2,_⟩:=ny hb.Jk
   have e1:c.cap=o.cap:=by rw [hb.is]
   have e2:c.level=p.level+1:=by rw [hb.is]
   have h0:=h.level hp
   match n,hn with
   | 0,hn=>omega
   | n+1,hn=>
    have:=iT.Iq h n o.aQ p hp (by omega)
    omega
theorem iT.cap {l:List aq}{T:Tr}(h:iT l T){d:Dt}{c:Cr}(hg:MM.get T.at_ d=some c):c.cap≤1099511627776:=
 h.Iq c.level.toNat d c hg (by have:=h.level hg;omega)
section
variable {l:List aq} (hlen:l.length<4611686018427387904) (hl:∀ x,x∈l→x.bn<256) {T:Tr} (h:iT l T)
include hlen hl h
theorem Di (s:List Sp)(hs:s.length<100000){d:Dt}{c:Cr}(hg:MM.get T.at_ d=some c):Go.Sl.Pure Try.prog ref22_left.f [ops l,cF s,.agg d.cells] (.d (.int .u64 ((bM T.at_ s d:Nat):Int))):=by
 rw [lM hg]
 have hr:=vM hlen hl h hg
 have hsp:=mV s (by omega) d
 have hcap:=h.cap hg
 generalize aU s d=n at hsp
 refine ref22_left.enter (by first | rfl | simp [SV.ok,SV.aI]) (by first | rfl | simp [Hp.ok,Ob.ok,SV.ok,SV.aI,aS.aj]) (by simp) ?_
 dsimp only [ref22_left.s,Co.M,Co.G,Co.J,Co.H,Co.N,Co.F,Co.C,Co.Z,Co.B,Co.b8,Co.aA,Co.bz,Co.i6,Co.z8,Co.dm]
 by_cases hn:n≥c.cap
 ·have h1:decide ((n:Int)≥(c.cap:Int))=true:=by simp;omega
  rw [show c.cap - n=0 by omega]
  (repeat (first | refine SW.seq ?_ | refine SW.block ?_ | refine SW.g2 [0,1,2,5,6,7,9,22] mixed (h1) hr hsp ?_ | refine SW.skip ?_ | refine SW.exit ?_ | refine SW.ret ?_ | refine SW.au rfl ?_ | refine SW.ak rfl ?_))
  exact End.mk [] (h4:=⟨rfl,rfl⟩)
 ·have h1:decide ((n:Int)≥(c.cap:Int))=false:=by simp;omega
  have h2:IntKind.u64.wrap ((c.cap:Int) - (n:Int))=((c.cap - n:Nat):Int):=by rw [ff _ (by omega)];omega
  (repeat (first | refine SW.seq ?_ | refine SW.block ?_ | refine SW.g2 [0,1,2,5,6,7,9,22] mixed (And.intro (h1) (h2)) hr hsp ?_ | refine SW.skip ?_ | refine SW.exit ?_ | refine SW.ret ?_ | refine SW.au rfl ?_ | refine SW.ak rfl ?_))
  exact End.mk [] (h4:=⟨rfl,rfl⟩)
theorem Dj (s:List Sp)(hs:s.length<100000){d:Dt}{c:Cr}(hg:MM.get T.at_ d=some c)(k:Nat):bp Try.prog ref22_left.f [ops l,cF s,.agg d.cells] [] k 0 (.d (.int .u64 ((bM T.at_ s d:Nat):Int))) []:=(Di hlen hl h s hs hg).sc rfl k
def y7 (f:Dt→Nat):List Dt→SV
 | []=> .cg [.agg (Dt.mk 0 0).cells,.d (.int .u64 0),.d (.int .i64 7)]
 | d::r=> .cg [.agg (bP f d r).cells,.d (.int .u64 ((f (bP f d r):Nat):Int)),.d (.int .i64 0)]
set_option maxHeartbeats 4000000 in
theorem Bc (s:List Sp)(hs:s.length<100000)(d:Dt)(L:List Cr)(hL:lZ T.at_ (MM.get T.at_ d) L)(xX:L.length<1000000):Go.Sl.Pure Try.prog ref22_Tight.f [ops l,cF s,.agg d.cells] (y7 (bM T.at_ s) (L.map (·.dot))):=by
 have hc:=uO hlen hl h d L hL xX
 cases hg:MM.get T.at_ d with
 | none=>
  rw [vL hg] at hc
  have e0:L=[]:=by rw [hg] at hL;cases hL;rfl
  rw [e0]
  show Go.Sl.Pure _ _ _ (.cg [.agg (Dt.mk 0 0).cells,.d (.int .u64 0),.d (.int .i64 7)])
  refine ref22_Tight.enter (by first | rfl | simp [SV.ok,SV.aI]) (by first | rfl | simp [Hp.ok,Ob.ok,SV.ok,SV.aI,aS.aj]) (by simp) ?_
  dsimp only [ref22_Tight.s,Co.M,Co.G,Co.J,Co.H,Co.N,Co.F,Co.C,Co.Z,Co.B,Co.b8,Co.aA,Co.bz,Co.i6,Co.z8,Co.dm]
  (repeat (first | refine SW.seq ?_ | refine SW.block ?_ | refine SW.g1 [0,1,2,5,6,7,8,9,10,11,12,20,25,42] mixed U hc ?_ | refine SW.skip ?_ | refine SW.exit ?_ | refine SW.ret ?_ | refine SW.au rfl ?_ | refine SW.ak rfl ?_))
  exact End.mk [] (h4:=⟨rfl,rfl⟩)
 | some c=>
  rw [pn hg] at hc
  have hall:∀ x,x∈L.map (·.dot)→∃ y,MM.get T.at_ x=some y:=fun x hx=>by
   obtain ⟨y,hy,rfl⟩:=List.mem_map.1 hx
   exact ⟨y,h.jE hL y hy⟩
  have hD:(L.map (·.dot)).length=L.length:=List.length_map ..
  have hL0:0<L.length:=by
   rw [hg] at hL
   have:=hL.head
   exact bq this
  generalize L.map (·.dot)=D at hc hall hD
  have hlf:∀ x,x∈D→∀ k,bp Try.prog ref22_left.f [ops l,cF s,.agg x.cells] [] k 0 (.d (.int .u64 ((bM T.at_ s x:Nat):Int))) []:=fun x hx k=>by
   obtain ⟨y,hy⟩:=hall x hx
   exact Dj hlen hl h s hs hy k
  generalize bM T.at_ s=f at hlf
  cases D with
  | nil=>simp at hD;omega
  | cons d0 r=>
   show Go.Sl.Pure _ _ _ (.cg [.agg (bP f d0 r).cells,.d (.int .u64 ((f (bP f d0 r):Nat):Int)),.d (.int .i64 0)])
   have hrl:(d0::r).length<1000000:=by omega
   have hrn:(d0::r).length=r.length+1:=rfl
   generalize hDD:d0::r=D at*
   refine ref22_Tight.enter (by first | rfl | simp [SV.ok,SV.aI]) (by first | rfl | simp [Hp.ok,Ob.ok,SV.ok,SV.aI,aS.aj]) (by simp) ?_
   dsimp only [ref22_Tight.s,Co.M,Co.G,Co.J,Co.H,Co.N,Co.F,Co.C,Co.Z,Co.B,Co.b8,Co.aA,Co.bz,Co.i6,Co.z8,Co.dm]
   refine SW.seq ?_
   refine SW.g1 [0,1,2,5,6,7,8,9,10,11,12,20,25,42] mixed U hc ?_
   refine SW.seq ?_
   refine SW.g1 [0,1,2,5,6,7,8,9,10,11,12,20,25,42] mixed U hc ?_
   refine SW.seq (SW.seq ?_)
   refine SW.g1 [0,1,2,5,6,7,8,9,10,11,12,20,25,42] mixed U hc ?_
   refine SW.ak rfl (SW.skip ?_)
   refine SW.seq ?_
   refine SW.g1 [0,1,2,5,6,7,8,9,10,11,12,20,25,42] mixed U hc ?_
   refine SW.seq (SW.seq ?_)
   refine SW.g1 [0,1,2,5,6,7,8,9,10,11,12,20,25,42] mixed U hc ?_
   refine SW.block ?_
   refine SW.c8 (α:={j:Nat×Nat // j.1≤r.length∧D[j.2]? =some (bP f d0 (r.take j.1))}) (fun j=>⟨[(12,i64 ((j.1.1+1:Nat):Int)),(11,i64 j.1.2),(9,ic D),(0,ops l),(1,cF s),(6,.ptr 1 0)],[(1,.box 29 (Dt.mk 0 0).cells)],2⟩) (fun j=>r.length - j.1.1) ⟨(0,0),by omega,by rw [← hDD];rfl⟩ id U (round:= ?_)
   rintro ⟨⟨j,b⟩,hj,hb⟩
   dsimp only at hj hb ⊢
   have hbD:=bq hb
   by_cases hjl:j<r.length
   ·obtain ⟨x,hx⟩:=aL hjl
    have hxD:D[j+1]? =some x:=by rw [← hDD];exact hx
    have h1:decide (((j+1:Nat):Int)<D.length)=true:=by simp only [decide_eq_true_eq];omega
    have e2:IntKind.i64.wrap (((j+1:Nat):Int)+1)=((j+1+1:Nat):Int):=by rw [wrap_i64 _ (by omega)];omega
    have c1:=hlf x (List.mem_of_getElem? hxD)
    have c2:=hlf _ (List.mem_of_getElem? hb)
    have e1:r.take (j+1)=r.take j++[x]:=bQ hx
    have hms:=iE f d0 (r.take j) x
    rw [← e1] at hms
    generalize hm:bP f d0 (r.take j)=y at hb c2 hms
    refine SW.seq (SW.seq ?_)
    refine SW.g2 [0,1,2,5,6,7,8,9,10,11,12,20,25,42] mixed (h1) c1 c2 ?_
    refine SW.au rfl (SW.skip ?_)
    refine SW.seq (SW.block (SW.seq ?_))
    by_cases hlt:f x<f y
    ·have h2:decide (((f x:Nat):Int)<((f y:Nat):Int))=true:=by simp;omega
     rw [if_pos hlt] at hms
     refine SW.g2 [0,1,2,5,6,7,8,9,10,11,12,20,25,42] mixed (And.intro (gf hxD) (And.intro (gf hb) (h2))) c1 c2 ?_
     refine SW.au rfl ?_
     refine SW.g2 [0,1,2,5,6,7,8,9,10,11,12,20,25,42] mixed U c1 c2 ?_
     refine SW.g2 [0,1,2,5,6,7,8,9,10,11,12,20,25,42] mixed (e2) c1 c2 ?_
     dsimp only
     exact ⟨⟨(j+1,j+1),by show j+1≤_;omega,by show D[j+1]? =some (bP f d0 (r.take (j+1)));rw [hms];exact hxD⟩,id,by show r.length - (j+1)<_;omega,bg.mk U⟩
    ·have h2:decide (((f x:Nat):Int)<((f y:Nat):Int))=false:=by simp;omega
     rw [if_neg hlt] at hms
     refine SW.g2 [0,1,2,5,6,7,8,9,10,11,12,20,25,42] mixed (And.intro (gf hxD) (And.intro (gf hb) (h2))) c1 c2 ?_
     refine SW.ak rfl (SW.skip ?_)
     refine SW.g2 [0,1,2,5,6,7,8,9,10,11,12,20,25,42] mixed (e2) c1 c2 ?_
     dsimp only
     exact ⟨⟨(j+1,b),by show j+1≤_;omega,by show D[b]? =some (bP f d0 (r.take (j+1)));rw [hms];exact hb⟩,id,by show r.length - (j+1)<_;omega,bg.mk U⟩
   ·have h1:decide (((j+1:Nat):Int)<D.length)=false:=by simp only [decide_eq_false_iff_not];omega
    have hjr:j=r.length:=by omega
    subst hjr
    rw [List.take_length] at hb
    have c2:=hlf _ (List.mem_of_getElem? hb)
    generalize bP f d0 r=y at hb c2
    refine SW.seq (SW.seq ?_)
    refine SW.g1 [0,1,2,5,6,7,8,9,10,11,12,20,25,42] mixed (h1) c2 ?_
    refine SW.ak rfl (SW.exit ?_)
    refine SW.seq ?_
    refine SW.g1 [0,1,2,5,6,7,8,9,10,11,12,20,25,42] mixed (gf hb) c2 ?_
    refine SW.ret ?_
    exact End.mk [] (h4:=⟨rfl,rfl⟩)
theorem Bd (s:List Sp)(hs:s.length<100000)(d:Dt)(L:List Cr)(hL:lZ T.at_ (MM.get T.at_ d) L)(xX:L.length<1000000)(k:Nat):bp Try.prog ref22_Tight.f [ops l,cF s,.agg d.cells] [] k 0 (y7 (bM T.at_ s) (L.map (·.dot))) []:=(Bc hlen hl h s hs d L hL xX).sc (by cases L.map (·.dot) <;> rfl) k
end
end
section
attribute [local irreducible] SW RW bp SC af aa
def tg (M:MM Dt Nat×Nat)(x:Sp):MM Dt Nat×Nat:=if MM.has M.1 x.d then M else (MM.put M.1 M.2 x.d x.n,MM.nO M.1 M.2 x.d)
def iI (s:List Sp):MM Dt Nat×Nat:=s.foldl tg ([],0)
theorem th (s:List Sp)(x:Sp):iI (s++[x])=tg (iI s) x:=by unfold iI;rw [List.foldl_append];rfl
theorem ot (s:List Sp):MM.wf (iI s).1 (iI s).2:=by
 induction s using ez with
 | nil=>exact MM.rY
 | snoc s x ih=>
  rw [th]
  unfold tg
  split
  ·exact ih
  ·exact MM.pV ih _ _
theorem vN (s:List Sp)(d:Dt):MM.get (iI s).1 d=(bL s d).map (·.n):=by
  induction s using ez with
  | nil=>rfl
  | snoc s x ih=>
    rw [th,tf]
    unfold tg
    by_cases hh:MM.has (iI s).1 x.d=true
    · rw [if_pos hh,ih]
      cases hs:bL s d with
      | some y=>rfl
      | none=>
        have:bL [x] d=none:=by
          rw [gU,if_neg,og]
          intro e
          unfold MM.has at hh
          rw [e,ih,hs] at hh
          cases hh
        rw [this];rfl
    · rw [if_neg hh]
      show MM.get (MM.put _ _ _ _) d=_
      rw [MM.jR]
      by_cases e:d=x.d
      · rw [if_pos e]
        have:bL s d=none:=by
          have h2:MM.get (iI s).1 x.d=none:=by
            cases hg:MM.get (iI s).1 x.d with
            | none=>rfl
            | some v=>exact absurd (show MM.has (iI s).1 x.d=true by unfold MM.has;rw [hg];rfl) hh
          rw [← e,ih] at h2
          cases hs:bL s d with
          | none=>rfl
          | some y=>rw [hs] at h2;cases h2
        rw [this,gU,if_pos e.symm];rfl
      · rw [if_neg e,ih]
        have:bL [x] d=none:=by rw [gU,if_neg (fun h=>e h.symm),og]
        rw [this]
        cases bL s d <;> rfl
theorem mW (s:List Sp)(d:Dt):(MM.get (iI s).1 d).getD 0=aU s d:=by rw [vN];rfl
set_option maxHeartbeats 2000000 in
theorem xA (s:List Sp)(hs:s.length<100000):SB Try.prog charge_spendsOf.f [cF s] [] 0 1 (fun r F'=>r= .mp 0∧F'=[(0,.map (aH Dt.cells uv (iI s).1) (iI s).2)]):=by
 refine charge_spendsOf.enter (by first | rfl | simp [SV.ok,SV.aI]) (by first | rfl | simp [Hp.ok,Ob.ok,SV.ok,SV.aI,aS.aj]) (by simp) ?_
 dsimp only [charge_spendsOf.s,Co.M,Co.G,Co.J,Co.H,Co.N,Co.F,Co.C,Co.Z,Co.B,Co.b8,Co.aA,Co.bz,Co.i6,Co.z8,Co.dm]
 refine SW.seq ?_
 refine SW.g0 [0,2,3,5,7,9,10,11,12,23] mixed U ?_
 refine SW.seq ?_
 refine SW.g0 [0,2,3,5,7,9,10,11,12,23] mixed U ?_
 refine SW.seq (SW.seq ?_)
 refine SW.g0 [0,2,3,5,7,9,10,11,12,23] mixed U ?_
 refine SW.block ?_
 refine SW.c8 (α:={i:Nat // i≤s.length}) (fun i=>⟨[(11,i64 i.1),(9,cF s),(10,i64 s.length),(3,.mp 0)],[(0,.map (aH Dt.cells uv (iI (s.take i.1)).1) (iI (s.take i.1)).2)],1⟩) (fun i=>s.length - i.1) ⟨0,by omega⟩ id (And.intro (show iI []=([],0) from rfl) (show aH Dt.cells uv []=[] from rfl)) (round:= ?_)
 rintro ⟨i,hi⟩
 dsimp only
 by_cases hil:i<s.length
 ·obtain ⟨x,hx⟩:=aL hil
  have h1:decide ((i:Int)<s.length)=true:=by simp;exact hil
  have e1:s.take (i+1)=s.take i++[x]:=bQ hx
  have e2:IntKind.i64.wrap ((i:Int)+1)=((i+1:Nat):Int):=wrap_i64 _ (by omega)
  have jJ:=th (s.take i) x
  rw [← e1] at jJ
  unfold tg at jJ
  refine SW.seq ?_
  refine SW.g0 [0,2,3,5,7,9,10,11,12,23] mixed (h1) ?_
  refine SW.seq (SW.au rfl (SW.skip ?_))
  refine SW.seq (SW.block ?_)
  refine SW.seq ?_
  refine SW.g0 [0,2,3,5,7,9,10,11,12,23] mixed (And.intro (su hx) (wN hx)) ?_
  rcases hh:MM.has (iI (s.take i)).1 x.d with _ | _
  ·rw [if_neg (by rw [hh];decide)] at jJ
   refine SW.seq ?_
   refine SW.g0 [0,2,3,5,7,9,10,11,12,23] mixed (hh) ?_
   refine SW.seq ?_
   refine SW.g0 [0,2,3,5,7,9,10,11,12,23] mixed U ?_
   refine SW.au rfl ?_
   refine SW.g0 [0,2,3,5,7,9,10,11,12,23] mixed U ?_
   refine SW.g0 [0,2,3,5,7,9,10,11,12,23] mixed (e2) ?_
   dsimp only
   exact ⟨⟨i+1,by omega⟩,id,by show s.length - (i+1)<_;omega,bg.mk (And.intro jJ (And.intro (fun q:Nat→Bool=>eu q (MM.put (iI (s.take i)).1 (iI (s.take i)).2 x.d x.n)) (fun r=>eY r (MM.put (iI (s.take i)).1 (iI (s.take i)).2 x.d x.n))))⟩
  ·rw [if_pos hh] at jJ
   refine SW.seq ?_
   refine SW.g0 [0,2,3,5,7,9,10,11,12,23] mixed (hh) ?_
   refine SW.seq ?_
   refine SW.g0 [0,2,3,5,7,9,10,11,12,23] mixed U ?_
   refine SW.ak rfl (SW.skip ?_)
   refine SW.g0 [0,2,3,5,7,9,10,11,12,23] mixed (e2) ?_
   dsimp only
   exact ⟨⟨i+1,by omega⟩,id,by show s.length - (i+1)<_;omega,bg.mk (And.intro jJ (And.intro (fun q:Nat→Bool=>eu q (iI (s.take i)).1) (fun r=>eY r (iI (s.take i)).1)))⟩
 ·have h1:decide ((i:Int)<s.length)=false:=by simp;omega
  have h2:i=s.length:=by omega
  subst h2
  rw [List.take_length]
  refine SW.seq ?_
  refine SW.g0 [0,2,3,5,7,9,10,11,12,23] mixed (h1) ?_
  refine SW.seq (SW.ak rfl (SW.exit ?_))
  refine SW.seq ?_
  refine SW.g0 [0,2,3,5,7,9,10,11,12,23] mixed U ?_
  refine SW.ret ?_
  exact End.mk [(0,.map (aH Dt.cells uv (iI s).1) (iI s).2)] (h3:=fun _ _ h=>h) (h4:=⟨rfl,rfl⟩) (h6:=by simp only [Hp.ok,List.all_cons,List.all_nil,Ob.ok,eu,Bool.and_true,decide_eq_true_eq];omega)
theorem xB (s:List Sp)(hs:s.length<100000)(k:Nat):bp Try.prog charge_spendsOf.f [cF s] [] k 1 (.mp k) [(k,.map (aH Dt.cells uv (iI s).1) (iI s).2)]:=by
 have h:=SB.new (xA s hs) k
 simpa [SV.aV,Hp.aV,Ob.aV,eY,iq] using h
theorem xC (x y:Sp):Go.Sl.Pure Try.prog charge_pair_compare.f [.agg x.cells,.agg y.cells] (.d (.int .i64 (Dt.cmp x.d y.d))):=by
 refine charge_pair_compare.enter (by first | rfl | simp [SV.ok,SV.aI]) (by first | rfl | simp [Hp.ok,Ob.ok,SV.ok,SV.aI,aS.aj]) (by simp) ?_
 dsimp only [charge_pair_compare.s,Co.M,Co.G,Co.J,Co.H,Co.N,Co.F,Co.C,Co.Z,Co.B,Co.b8,Co.aA,Co.bz,Co.i6,Co.z8,Co.dm]
 refine SW.seq ?_
 (refine SW.ai [0,1,2,3,4] mixed ?_;(repeat (first | refine RW.ro U (h:= ?_) | refine RW.skip (h:= ?_) | refine RW.op U (h:= ?_) | refine RW.aF U (h:= ?_) | refine RW.ah (h:= ?_) | (refine RW.ax (h:= ?_);(first | refine af.mk U (hc:=s9 _ _ _) (h:= ?_)))));refine RW.nil ⟨by kernel_rfl,aa.mk (h:= ?_)⟩)
 refine SW.seq ?_
 (refine SW.ai [0,1,2,3,4] mixed ?_;(repeat (first | refine RW.ro U (h:= ?_) | refine RW.skip (h:= ?_) | refine RW.op U (h:= ?_) | refine RW.aF U (h:= ?_) | refine RW.ah (h:= ?_) | (refine RW.ax (h:= ?_);(first | refine af.mk U (hc:=s9 _ _ _) (h:= ?_)))));refine RW.nil ⟨by kernel_rfl,aa.mk (h:= ?_)⟩)
 refine SW.ret ?_
 exact End.mk [] (h4:=⟨rfl,rfl⟩)
theorem xD (x y:Sp)(k:Nat):bp Try.prog charge_pair_compare.f [.agg x.cells,.agg y.cells] [] k 0 (.d (.int .i64 (Dt.cmp x.d y.d))) []:=(xC x y).sc rfl k
end
section
attribute [local irreducible] SW RW bp SC af aa
def kH (a:MM Dt Cr)(M:MM Dt Nat)(d:Dt):Nat:=((MM.get a d).getD Cr.zero).cap - (MM.get M d).getD 0
abbrev Ht (a:MM Dt Cr)(ca:Nat)(m:MM Dt aq)(cm:Nat)(M:MM Dt Nat)(cM:Nat):Hp:=(3,.map (aH Dt.cells uv M) cM)::fB a ca m cm
abbrev DP (a:MM Dt Cr)(ca:Nat)(m:MM Dt aq)(cm:Nat)(M:MM Dt Nat)(cM:Nat):Hp:=(5,.box 106 [.mp 3])::(4,.box 41 [.ptr 0 0])::Ht a ca m cm M cM
theorem y8 (a:MM Dt Cr)(ca:Nat)(m:MM Dt aq)(cm:Nat)(M:MM Dt Nat)(cM:Nat){k:Nat}(h:4≤k):(Ht a ca m cm M cM).ok (fun n=>decide (n<k))=true:=
 bU (by simp;omega) (by simp only [Ob.ok];exact eu _ M) (cN a ca m cm (by omega))
theorem y9 (a:MM Dt Cr)(ca:Nat)(m:MM Dt aq)(cm:Nat)(M:MM Dt Nat)(cM:Nat){k:Nat}(h:6≤k):(DP a ca m cm M cM).ok (fun n=>decide (n<k))=true:=
 bU (by simp;omega) (by simp [Ob.ok,SV.aI,SV.ok];omega) (bU (by simp;omega) (by simp [Ob.ok,SV.aI,SV.ok];omega) (y8 a ca m cm M cM (by omega)))
theorem xE (a:MM Dt Cr)(m:MM Dt aq)(M:MM Dt Nat):(∀ q:Nat→Bool,((aH Dt.cells uv M).all fun e=>e.2.1.ok q && e.2.2.ok q)=true)∧(∀ r:Nat→Nat,(aH Dt.cells uv M).map (fun e=>(e.1,e.2.1.aV r,e.2.2.aV r))=aH Dt.cells uv M)∧(∀ q:Nat→Bool,((aH Dt.cells cv a).all fun e=>e.2.1.ok q && e.2.2.ok q)=true)∧(∀ q:Nat→Bool,((aH Dt.cells ov m).all fun e=>e.2.1.ok q && e.2.2.ok q)=true)∧(∀ r:Nat→Nat,(aH Dt.cells cv a).map (fun e=>(e.1,e.2.1.aV r,e.2.2.aV r))=aH Dt.cells cv a)∧(∀ r:Nat→Nat,(aH Dt.cells ov m).map (fun e=>(e.1,e.2.1.aV r,e.2.2.aV r))=aH Dt.cells ov m):=
 ⟨fun q=>eu q M,fun r=>eY r M,pq a m⟩
section
variable (a:MM Dt Cr) (ca:Nat) (m:MM Dt aq) (cm:Nat) (M:MM Dt Nat) (cM:Nat) (hcap:∀ d c,MM.get a d=some c→c.cap≤1099511627776)
include hcap
set_option maxHeartbeats 4000000 in
theorem Be (d:Dt):SB Try.prog charge_tight_1.f [.agg d.cells,.ptr 4 0,.ptr 5 0] (DP a ca m cm M cM) 6 0 (fun r F'=>r= .d (.int .u64 ((kH a M d:Nat):Int))∧F'=DP a ca m cm M cM):=by
 have hget:∀ k,bp Try.prog tree_Tree_Get.f [.ptr 0 0,.agg d.cells] (fB a ca m cm) k 3 (.cg [.agg ((MM.get a d).getD Cr.zero).cells,i64 (if MM.has a d then 0 else 7)]) (fB a ca m cm):=fun k=>get_at (lI a ca m cm) d k
 refine charge_tight_1.enter (by simp [SV.aI,SV.ok]) (y9 a ca m cm M cM (Nat.le_refl 6)) (by simp) ?_
 dsimp only [charge_tight_1.s,Co.M,Co.G,Co.J,Co.H,Co.N,Co.F,Co.C,Co.Z,Co.B,Co.b8,Co.aA,Co.bz,Co.i6,Co.z8,Co.dm]
 have hc:((MM.get a d).getD Cr.zero).cap≤1099511627776:=by
  cases hg:MM.get a d with
  | none=>show (0:Nat)≤_;omega
  | some c=>exact hcap d c hg
 unfold kH
 generalize (MM.get a d).getD Cr.zero=c at hget hc ⊢
 generalize (if MM.has a d then 0 else 7:Int)=e at hget
 generalize hv:(MM.get M d).getD 0=v
 refine SW.seq ?_
 refine SW.g1 [0,1,2,3,4,5] mixed U hget ?_
 refine SW.seq ?_
 refine SW.g1 [0,1,2,3,4,5] mixed U hget ?_
 refine SW.seq ?_
 by_cases hlt:v<c.cap
 ·have e1:(if ((v:Nat):Int)<((c.cap:Nat):Int) then ((v:Nat):Int) else ((c.cap:Nat):Int))=(v:Int):=if_pos (by omega)
  have e2:IntKind.u64.wrap ((c.cap:Int) - (v:Int))=((c.cap - v:Nat):Int):=by rw [ff _ (by omega)];omega
  refine SW.g1 [0,1,2,3,4,5] mixed (And.intro (hv) (And.intro (e1) (e2))) hget ?_
  refine SW.ret ?_
  exact End.mk (DP a ca m cm M cM) (h3:=by intro n ob hn;match n with | 0 | 1 | 2 | 3 | 4 | 5=>simpa [ag] using hn | n+6=>simp [ag,bA] at hn) (h4:=⟨rfl,rfl⟩) (h6:=y9 a ca m cm M cM (by omega))
 ·have e1:(if ((v:Nat):Int)<((c.cap:Nat):Int) then ((v:Nat):Int) else ((c.cap:Nat):Int))=(c.cap:Int):=if_neg (by omega)
  have e2:IntKind.u64.wrap ((c.cap:Int) - (c.cap:Int))=((0:Nat):Int):=by rw [Int.sub_self];rfl
  rw [show c.cap - v=0 by omega]
  refine SW.g1 [0,1,2,3,4,5] mixed (And.intro (hv) (And.intro (e1) (e2))) hget ?_
  refine SW.ret ?_
  exact End.mk (DP a ca m cm M cM) (h3:=by intro n ob hn;match n with | 0 | 1 | 2 | 3 | 4 | 5=>simpa [ag] using hn | n+6=>simp [ag,bA] at hn) (h4:=⟨rfl,rfl⟩) (h6:=y9 a ca m cm M cM (by omega))
theorem Bf (d:Dt)(k:Nat):bp Try.prog charge_tight_1.f [.agg d.cells,.ptr 4 0,.ptr 5 0] (DP a ca m cm M cM) k 0 (.d (.int .u64 ((kH a M d:Nat):Int))) (DP a ca m cm M cM):=
 by
 have h:=SB.ej [0,1,2,3,4,5] (Be a ca m cm M cM hcap d) (by decide) (fun i hi=>by
  match i,hi with
  | 0,_ | 1,_ | 2,_ | 3,_ | 4,_ | 5,_=>simp [ag]
  | i+6,hi=>exact absurd hi (by simp)) k
 have e:Hp.aV (iq [0,1,2,3,4,5] k) (DP a ca m cm M cM)=DP a ca m cm M cM:=by
  simp [Hp.aV,Ob.aV,SV.bh,SV.aV,iq,eY,jA,jy]
 rw [e] at h
 simpa [SV.bh,SV.aV,iq,Dt.aD] using h
set_option maxHeartbeats 4000000 in
theorem Dk (d0:Dt)(r:List Dt)(hr:r.length<1000000):SB Try.prog charge_tight.f [.ptr 0 0,.mp 3,ic (d0::r)] (Ht a ca m cm M cM) 4 0 (fun v F'=>v= .cg [.agg (bP (kH a M) d0 r).cells,.d (.int .u64 ((kH a M (bP (kH a M) d0 r):Nat):Int))]∧F'=Ht a ca m cm M cM):=by
 have ht:=Bf a ca m cm M cM hcap
 generalize kH a M=f at ht
 have hD0:(d0::r)[0]? =some d0:=rfl
 have hDl:(d0::r).length=r.length+1:=rfl
 have hfix:∀ n,bP f d0 ((d0::r).take (n+1))=bP f d0 (r.take n):=fun n=>by
  show bP f d0 (d0::r.take n)=_
  unfold bP
  rw [List.foldl_cons,if_neg (Nat.lt_irrefl _)]
 have hall:bP f d0 (d0::r)=bP f d0 r:=by
  have:=hfix r.length
  rwa [List.take_length,← hDl,List.take_length] at this
 rw [← hall]
 generalize hDD:d0::r=D at*
 refine charge_tight.enter (by simp [SV.aI,SV.ok]) (y8 a ca m cm M cM (Nat.le_refl 4)) (by simp) ?_
 dsimp only [charge_tight.s,Co.M,Co.G,Co.J,Co.H,Co.N,Co.F,Co.C,Co.Z,Co.B,Co.b8,Co.aA,Co.bz,Co.i6,Co.z8,Co.dm]
 refine SW.seq ?_
 refine SW.g0 [0,1,2,3,4,6,7,8,9,11,16,17,18,19,28] mixed U ?_
 refine SW.seq ?_
 refine SW.g0 [0,1,2,3,4,6,7,8,9,11,16,17,18,19,28] mixed U ?_
 refine SW.seq ?_
 have hd0:List.take 2 (List.map SV.d (D.flatMap Dt.ds))=d0.cells:=by
  have:=gf hD0
  simpa using this
 refine SW.g0 [0,1,2,3,4,6,7,8,9,11,16,17,18,19,28] mixed (hd0) ?_
 refine SW.seq (SW.seq ?_)
 refine SW.g0 [0,1,2,3,4,6,7,8,9,11,16,17,18,19,28] mixed U ?_
 refine SW.block ?_
 refine SW.c8 (α:={i:Nat // i≤D.length}) (fun i=>⟨[(18,i64 i.1),(16,ic D),(17,i64 D.length),(8,.fn (.func charge_tight_1.f) [] [.ptr 4 0,.ptr 5 0]),(9,.ptr 7 0),(6,.ptr 6 0)],(7,.box 29 (bP f d0 (D.take i.1)).cells)::(6,.box 29 (Dt.mk 0 0).cells)::DP a ca m cm M cM,8⟩) (fun i=>D.length - i.1) ⟨0,by omega⟩ id (And.intro (show bP f d0 []=d0 from rfl) (xE a m M)) (round:= ?_)
 rintro ⟨i,hi⟩
 dsimp only
 by_cases hil:i<D.length
 ·obtain ⟨x,hx⟩:=aL hil
  have h1:decide ((i:Int)<D.length)=true:=by simp;exact hil
  have e1:D.take (i+1)=D.take i++[x]:=bQ hx
  have e2:IntKind.i64.wrap ((i:Int)+1)=((i+1:Nat):Int):=wrap_i64 _ (by omega)
  have hms:=iE f d0 (D.take i) x
  rw [← e1] at hms
  generalize hy:bP f d0 (D.take i)=y at hms
  refine SW.seq ?_
  refine SW.g0 [0,1,2,3,4,6,7,8,9,11,16,17,18,19,28] mixed (h1) ?_
  refine SW.seq (SW.au rfl (SW.skip ?_))
  refine SW.seq (SW.block ?_)
  refine SW.seq ?_
  refine SW.g0 [0,1,2,3,4,6,7,8,9,11,16,17,18,19,28] mixed (gf hx) ?_
  refine SW.seq ?_
  by_cases hlt:f x<f y
  ·have h2:decide (((f x:Nat):Int)<((f y:Nat):Int))=true:=by simp;omega
   rw [if_pos hlt] at hms
   refine SW.g2 [0,1,2,3,4,6,7,8,9,11,16,17,18,19,28] mixed (h2) (ht x) (ht y) ?_
   refine SW.au rfl ?_
   refine SW.g2 [0,1,2,3,4,6,7,8,9,11,16,17,18,19,28] mixed U (ht x) (ht y) ?_
   refine SW.g2 [0,1,2,3,4,6,7,8,9,11,16,17,18,19,28] mixed (e2) (ht x) (ht y) ?_
   dsimp only
   exact ⟨⟨i+1,by omega⟩,id,by show D.length - (i+1)<_;omega,bg.mk (And.intro hms (xE a m M))⟩
  ·have h2:decide (((f x:Nat):Int)<((f y:Nat):Int))=false:=by simp;omega
   rw [if_neg hlt] at hms
   refine SW.g2 [0,1,2,3,4,6,7,8,9,11,16,17,18,19,28] mixed (h2) (ht x) (ht y) ?_
   refine SW.ak rfl (SW.skip ?_)
   refine SW.g2 [0,1,2,3,4,6,7,8,9,11,16,17,18,19,28] mixed (e2) (ht x) (ht y) ?_
   dsimp only
   exact ⟨⟨i+1,by omega⟩,id,by show D.length - (i+1)<_;omega,bg.mk (And.intro hms (xE a m M))⟩
 ·have h1:decide ((i:Int)<D.length)=false:=by simp;omega
  have h2:i=D.length:=by omega
  subst h2
  rw [List.take_length]
  generalize bP f d0 D=y
  refine SW.seq ?_
  refine SW.g1 [0,1,2,3,4,6,7,8,9,11,16,17,18,19,28] mixed (h1) (ht y) ?_
  refine SW.seq (SW.ak rfl (SW.exit ?_))
  refine SW.seq ?_
  refine SW.g1 [0,1,2,3,4,6,7,8,9,11,16,17,18,19,28] mixed U (ht y) ?_
  refine SW.ret ?_
  exact End.mk (Ht a ca m cm M cM) (h3:=by intro n ob hn;match n with | 0 | 1 | 2 | 3=>simpa [ag] using hn | n+4=>simp [ag,bA] at hn) (h4:=⟨rfl,rfl⟩) (h6:=y8 a ca m cm M cM (by omega))
end
end
end Go.Proofs.Ytefjaphfnkbbkaa
