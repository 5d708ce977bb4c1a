/-
 Submits: what the laws ask of a submit, plainly.
-/
import Derived.Test.YtefjaphfnkbbkaaUQ
set_option linter.unusedSectionVars false
set_option linter.unusedVariables false
set_option linter.unusedSimpArgs false
namespace Go.Proofs.Ytefjaphfnkbbkaa
open Go.Sl Go.Proofs Go.RowKit
section
theorem Tn.DA {l:List aq}{a:MM Dt Cr}{ca:Nat}{m:MM Dt aq}{cm:Nat}(h:Tn l a ca m cm)(hl:l.length<1000000000):
  bp Try.prog tree_New.f [ops l] [] 2 7 (.ptr 4 0) [(4,.box 71 [.mp 2,.mp 3]),(2,.map (aH Dt.cells cv a) ca),(3,.map (aH Dt.cells ov m) cm)]:=by
 have e:cU l 2=⟨4,2,3,a,ca,m,cm⟩:=by
  have h0:=h.new
  unfold cU Tr.sh at h0 ⊢
  injection h0 with h1 h2 h3 h4 h5 h6 h7
  rw [h4,h5,h6,h7]
  congr 1
  ·omega
  ·omega
  ·omega
 have:=yZ l hl 2
 rw [e] at this
 exact this
structure tA (a:MM Dt Cr)(l:List av)(s:List Sp)(o:aq)(D:List Dt)(R:List av×List Nat)(T:Nat):Prop where
 r:bB (ej l) o.who (l,[]) o.cl=R
 t:gj (cI l R.2)=T
 has:MM.has a o.aQ=true
 kind:o.kind=8
 ne:R.2≠[]
 JA:D≠[]
 le:T≤rV (bM a s) D
 eq:fD a l s o D= .cg [.agg (aG o.dot o.aQ o.who (fC (cI l R.2)) T),.agg [dD R.1,cF (xO T s D)],.d (.int .u8 1)]
theorem uV (a:MM Dt Cr)(l:List av)(s:List Sp)(o:aq)(D:List Dt):
    (∃ e:Nat,e≠1∧fD a l s o D= .cg [.agg dP,.agg [dD l,cF s],.d (.int .u8 (e:Int))])∨∃ R T,tA a l s o D R T:=by
  by_cases h1:MM.has a o.aQ=true∧o.kind=8
  · by_cases h2:(bB (ej l) o.who (l,[]) o.cl).2=[]
    · exact .inl ⟨4,by decide,by unfold fD;rw [if_pos h1,if_pos h2];rfl⟩
    · by_cases h3:cE (bM a s) (gj (cI l (bB (ej l) o.who (l,[]) o.cl).2)) D=0
      · obtain ⟨d1,d2⟩:=vS h3
        exact .inr ⟨_,_,rfl,rfl,h1.1,h1.2,h2,d1,d2,by unfold fD;rw [if_pos h1,if_neg h2,if_pos h3,rB d1 d2]⟩
      · exact .inl ⟨3,by decide,by unfold fD;rw [if_pos h1,if_neg h2,if_neg h3];rfl⟩
  · exact .inl ⟨0,by decide,by unfold fD;rw [if_neg h1];rfl⟩
section
variable {a:MM Dt Cr} {l:List av} {s:List Sp} {o:aq} {D:List Dt} {R:List av×List Nat} {T:Nat} (h:tA a l s o D R T)
include h
theorem tA.cl:me l R:=by rw [← h.r];exact me.run _ _ _ (me.zero l)
theorem tA.lt:T<18446744073709551616:=by rw [← h.t];exact El _
theorem tA.ic:R.1.map (·.dot)=l.map (·.dot):=by
 apply List.ext_getElem?
 intro i
 rw [List.getElem?_map,List.getElem?_map]
 by_cases hi:i<l.length
 ·rw [h.cl.get i _ (List.getElem?_eq_getElem hi),List.getElem?_eq_getElem hi]
  split <;> rfl
 ·rw [List.getElem?_eq_none (by rw [h.cl.len];omega),List.getElem?_eq_none (by omega)]
theorem tA.Jo (hb:∀ x,x∈l→lW x):∀ x,x∈R.1→lW x:=fun x hx=>by
 obtain ⟨i,hi⟩:=List.mem_iff_getElem?.1 hx
 have hlt:i<l.length:=by rw [← h.cl.len];exact bq hi
 have h1:=h.cl.get i _ (List.getElem?_eq_getElem hlt)
 rw [hi] at h1
 have h2:=hb _ (List.getElem_mem hlt)
 rw [Option.some.inj h1]
 split <;> exact ⟨h2.ap,h2.re⟩
theorem tA.again (s':List Sp):fD a R.1 s' o D= .cg [.agg dP,.agg [dD R.1,cF s'],.d (.int .u8 4)]:=by
 have e:(bB (ej R.1) o.who (R.1,[]) o.cl).2=[]:=by
  have e1:ej R.1=ej l:=funext fun d=>Au h.ic d
  have:=wP (l:=l) (ej l) o.who o.cl (me.zero l)
  rw [h.r] at this
  rw [e1,this]
 unfold fD
 rw [if_pos ⟨h.has,h.kind⟩,if_pos e]
end
end
section
attribute [local irreducible] SW RW bp SC af aa
set_option maxRecDepth 100000 in
set_option maxHeartbeats 16000000 in
theorem zi (l0:List aq)(hr:∀ o,o∈l0→o.bn<256)(hwf:∀ o,o∈l0→o.dot.wf)(hw:∀ o,o∈l0→AF o)(hlen:l0.length≤9223372036854775807)
  (l:List av) (hl:l.length<4611686018427387904) (s:List Sp) (hs:s.length≤9223372036854775807) (jJ:∀ y,y∈s→y.n<18446744073709551616) (hsw:∀ y,y∈s→y.d.wf) (o:aq) (ho:o.qW):
  SB Try.prog law23_ClaimOnce.f [ops l0,.agg [dD l,cF s],.agg o.cells] [] 0 0 (fun r F=>r=bl true):=by
 have oc:∀ q:Nat→Bool,SV.aI q o.cells=true:=aq.aj o
 refine law23_ClaimOnce.enter (by simp [SV.ok,SV.aI,oc]) (by simp [Hp.ok]) (by simp) ?_
 dsimp only [law23_ClaimOnce.s,Co.M,Co.G,Co.J,Co.H,Co.N,Co.F,Co.C,Co.Z,Co.B,Co.b8,Co.aA,Co.bz,Co.i6,Co.z8,Co.dm]
 have hG':=sU l0 hw hlen
 have hQ':=n_ l hl s o ho
 refine SW.seq ?_
 (refine SW.ai [0,1,2,4,5,6,7,8,9,10,12,13,14,16,18,21,46,59,111,122,142] mixed ?_;(repeat (first | refine RW.ro U (h:= ?_) | refine RW.skip (h:= ?_) | refine RW.op U (h:= ?_) | refine RW.aF U (h:= ?_) | refine RW.ah (h:= ?_)));refine RW.nil ⟨by kernel_rfl,aa.mk (h:= ?_)⟩)
 refine SW.seq (SW.seq ?_)
 rcases hG:iB l0 with _ | _ <;> rw [hG] at hG'
 rotate_left
 ·
  (refine SW.ai [0,1,2,4,5,6,7,8,9,10,12,13,14,16,18,21,46,59,111,122,142] mixed ?_;(repeat (first | refine RW.ro U (h:= ?_) | refine RW.skip (h:= ?_) | refine RW.op U (h:= ?_) | refine RW.aF U (h:= ?_) | refine RW.ah (h:= ?_) | (refine RW.ax (h:= ?_);(first | refine af.mk U (hc:=hG' _) (h:= ?_) | refine af.mk U (hc:=bk _) (h:= ?_)))));refine RW.nil ⟨by kernel_rfl,aa.mk (h:= ?_)⟩)
  refine SW.au rfl (SW.seq ?_)
  (refine SW.ai [0,1,2,4,5,6,7,8,9,10,12,13,14,16,18,21,46,59,111,122,142] mixed ?_;(repeat (first | refine RW.ro U (h:= ?_) | refine RW.skip (h:= ?_) | refine RW.op U (h:= ?_) | refine RW.aF U (h:= ?_) | refine RW.ah (h:= ?_) | (refine RW.ax (h:= ?_);(first | refine af.mk U (hc:=hG' _) (h:= ?_) | refine af.mk U (hc:=bk _) (h:= ?_)))));refine RW.nil ⟨by kernel_rfl,aa.mk (h:= ?_)⟩)
  refine SW.ret ?_
  exact End.mk [] (h4:=rfl)
 have hl80:=qf hG
 by_cases h50:l0.length≤50
 rotate_left
 ·have g1:decide ((l0.length:Int)>50)=true:=by simp only [decide_eq_true_eq];omega
  (refine SW.ai [0,1,2,4,5,6,7,8,9,10,12,13,14,16,18,21,46,59,111,122,142] mixed ?_;(repeat (first | refine RW.ro (g1) (h:= ?_) | refine RW.skip (h:= ?_) | refine RW.op (g1) (h:= ?_) | refine RW.aF (g1) (h:= ?_) | refine RW.ah (h:= ?_) | (refine RW.ax (h:= ?_);(first | refine af.mk (g1) (hc:=hG' _) (h:= ?_) | refine af.mk (g1) (hc:=bk _) (h:= ?_)))));refine RW.nil ⟨by kernel_rfl,aa.mk (h:= ?_)⟩)
  refine SW.au rfl (SW.seq ?_)
  (refine SW.ai [0,1,2,4,5,6,7,8,9,10,12,13,14,16,18,21,46,59,111,122,142] mixed ?_;(repeat (first | refine RW.ro U (h:= ?_) | refine RW.skip (h:= ?_) | refine RW.op U (h:= ?_) | refine RW.aF U (h:= ?_) | refine RW.ah (h:= ?_) | (refine RW.ax (h:= ?_);(first | refine af.mk U (hc:=hG' _) (h:= ?_) | refine af.mk U (hc:=bk _) (h:= ?_)))));refine RW.nil ⟨by kernel_rfl,aa.mk (h:= ?_)⟩)
  refine SW.ret ?_
  exact End.mk [] (h4:=rfl)
 have g1:decide ((l0.length:Int)>50)=false:=by simp only [decide_eq_false_iff_not];omega
 rcases hQ:Bt l s.length o.cl.length with _ | _ <;> rw [hQ] at hQ'
 rotate_left
 ·
  (refine SW.ai [0,1,2,4,5,6,7,8,9,10,12,13,14,16,18,21,46,59,111,122,142] mixed ?_;(repeat (first | refine RW.ro (g1) (h:= ?_) | refine RW.skip (h:= ?_) | refine RW.op (g1) (h:= ?_) | refine RW.aF (g1) (h:= ?_) | refine RW.ah (h:= ?_) | (refine RW.ax (h:= ?_);(first | refine af.mk (g1) (hc:=hG' _) (h:= ?_) | refine af.mk (g1) (hc:=hQ' _) (h:= ?_) | refine af.mk (g1) (hc:=bk _) (h:= ?_)))));refine RW.nil ⟨by kernel_rfl,aa.mk (h:= ?_)⟩)
  refine SW.au rfl (SW.seq ?_)
  (refine SW.ai [0,1,2,4,5,6,7,8,9,10,12,13,14,16,18,21,46,59,111,122,142] mixed ?_;(repeat (first | refine RW.ro U (h:= ?_) | refine RW.skip (h:= ?_) | refine RW.op U (h:= ?_) | refine RW.aF U (h:= ?_) | refine RW.ah (h:= ?_) | (refine RW.ax (h:= ?_);(first | refine af.mk U (hc:=hG' _) (h:= ?_) | refine af.mk U (hc:=hQ' _) (h:= ?_) | refine af.mk U (hc:=bk _) (h:= ?_)))));refine RW.nil ⟨by kernel_rfl,aa.mk (h:= ?_)⟩)
  refine SW.ret ?_
  exact End.mk [] (h4:=rfl)
 have gb:=yP hQ
 obtain ⟨b1,b2,b3,b4⟩:=gb
 have hP:=Bb s (by omega) hsw
 have hPl:=oq s
 have hSm:=kG s (fM s) (by omega) (by omega)
 rcases hq:decide (s=fM s) with _ | _ <;> rw [hq] at hSm
 ·
  (refine SW.ai [0,1,2,4,5,6,7,8,9,10,12,13,14,16,18,21,46,59,111,122,142] mixed ?_;(repeat (first | refine RW.ro (g1) (h:= ?_) | refine RW.skip (h:= ?_) | refine RW.op (g1) (h:= ?_) | refine RW.aF (g1) (h:= ?_) | refine RW.ah (h:= ?_) | (refine RW.ax (h:= ?_);(first | refine af.mk (g1) (hc:=hG' _) (h:= ?_) | refine af.mk (g1) (hc:=hQ' _) (h:= ?_) | refine af.mk (g1) (hc:=hP _) (h:= ?_) | refine af.mk (g1) (hc:=hSm _) (h:= ?_) | refine af.mk (g1) (hc:=bk _) (h:= ?_)))));refine RW.nil ⟨by kernel_rfl,aa.mk (h:= ?_)⟩)
  refine SW.au rfl (SW.seq ?_)
  (refine SW.ai [0,1,2,4,5,6,7,8,9,10,12,13,14,16,18,21,46,59,111,122,142] mixed ?_;(repeat (first | refine RW.ro U (h:= ?_) | refine RW.skip (h:= ?_) | refine RW.op U (h:= ?_) | refine RW.aF U (h:= ?_) | refine RW.ah (h:= ?_) | (refine RW.ax (h:= ?_);(first | refine af.mk U (hc:=hG' _) (h:= ?_) | refine af.mk U (hc:=hQ' _) (h:= ?_) | refine af.mk U (hc:=hP _) (h:= ?_) | refine af.mk U (hc:=hSm _) (h:= ?_) | refine af.mk U (hc:=bk _) (h:= ?_)))));refine RW.nil ⟨by kernel_rfl,aa.mk (h:= ?_)⟩)
  refine SW.ret ?_
  exact End.mk [] (h4:=rfl)
 (refine SW.ai [0,1,2,4,5,6,7,8,9,10,12,13,14,16,18,21,46,59,111,122,142] mixed ?_;(repeat (first | refine RW.ro (g1) (h:= ?_) | refine RW.skip (h:= ?_) | refine RW.op (g1) (h:= ?_) | refine RW.aF (g1) (h:= ?_) | refine RW.ah (h:= ?_) | (refine RW.ax (h:= ?_);(first | refine af.mk (g1) (hc:=hG' _) (h:= ?_) | refine af.mk (g1) (hc:=hQ' _) (h:= ?_) | refine af.mk (g1) (hc:=hP _) (h:= ?_) | refine af.mk (g1) (hc:=hSm _) (h:= ?_)))));refine RW.nil ⟨by kernel_rfl,aa.mk (h:= ?_)⟩)
 refine SW.ak rfl (SW.skip (SW.seq ?_))
 obtain ⟨a,ca,m,cm,h⟩:=z7 l0
 have ht:=h.tok
 obtain ⟨L,hL,hL9,_⟩:=ht.I9 o.aQ
 obtain ⟨m1,m2,m3,m4⟩:=pq a m
 (refine SW.ai [0,1,2,4,5,6,7,8,9,10,12,13,14,16,18,21,46,59,111,122,142] mixed ?_;(repeat (first | refine RW.ro U (h:= ?_) | refine RW.skip (h:= ?_) | refine RW.op U (h:= ?_) | refine RW.aF U (h:= ?_) | refine RW.ah (h:= ?_) | (refine RW.ax (h:= ?_);(first | refine af.mk U (hc:=h.DA (by omega)) (h:= ?_)))));refine RW.nil ⟨by kernel_rfl,aa.mk (h:= ?_)⟩)
 refine SW.weak (fun n=>if n=0 then 2 else if n=1 then 3 else if n=2 then 4 else if n=3 then 0 else if n=4 then 1 else n) (st1:=⟨[(0,ops l0),(4,.ptr 3 0),(5,.ptr 4 0),(7,.ptr 2 0)],(4,.box 35 o.cells)::(3,.box 26 [dD l,cF s])::H2 a ca m cm,5⟩) (bg.mk (And.intro (aq.aj o) <| And.intro (aq.aD o) <| And.intro m1 (And.intro m2 (And.intro m3 m4)))) ?_
 have c1:=fun k=>h.jg l (by omega) b4 s (by omega) jJ o ho (by omega) L hL (by omega) k
 have s7:bE dP 0 dP=dP:=rfl
 have sp2:∀ x y:SV,bE [SV.d DV.ay,SV.d DV.ay] 0 [x,y]=[x,y]:=fun x y=>rfl
 have el:decide (l=l)=true:=by simp
 have es:decide (s=s)=true:=by simp
 refine SW.seq ?_
 rcases uV a l s o (L.map (·.dot)) with ⟨e,he,hsub⟩ | ⟨R,T,hD⟩
 ·have q1:=fun k=>kz l l (by omega) (by omega) b4 b4 k
  have q2:=fun k=>kG s s (by omega) (by omega) k
  rw [el] at q1
  rw [es] at q2
  have qe:((e:Int) != 1)=true:=by rw [bne_iff_ne];omega
  rw [hsub] at c1
  (refine SW.ai [0,1,2,4,5,6,7,8,9,10,12,13,14,16,18,21,46,59,111,122,142] mixed ?_;(repeat (first | refine RW.ro (And.intro (s7) (sp2)) (h:= ?_) | refine RW.skip (h:= ?_) | refine RW.op (And.intro (s7) (sp2)) (h:= ?_) | refine RW.aF (And.intro (s7) (sp2)) (h:= ?_) | refine RW.ah (h:= ?_) | (refine RW.ax (h:= ?_);(first | refine af.mk (And.intro (s7) (sp2)) (hc:=c1 _) (h:= ?_)))));refine RW.nil ⟨by kernel_rfl,aa.mk (h:= ?_)⟩)
  refine SW.seq (SW.seq ?_)
  (refine SW.ai [0,1,2,4,5,6,7,8,9,10,12,13,14,16,18,21,46,59,111,122,142] mixed ?_;(repeat (first | refine RW.ro (qe) (h:= ?_) | refine RW.skip (h:= ?_) | refine RW.op (qe) (h:= ?_) | refine RW.aF (qe) (h:= ?_) | refine RW.ah (h:= ?_)));refine RW.nil ⟨by kernel_rfl,aa.mk (h:= ?_)⟩)
  refine SW.au rfl (SW.seq ?_)
  (refine SW.ai [0,1,2,4,5,6,7,8,9,10,12,13,14,16,18,21,46,59,111,122,142] mixed ?_;(repeat (first | refine RW.ro U (h:= ?_) | refine RW.skip (h:= ?_) | refine RW.op U (h:= ?_) | refine RW.aF U (h:= ?_) | refine RW.ah (h:= ?_) | (refine RW.ax (h:= ?_);(first | refine af.mk U (hc:=q1 _) (h:= ?_) | refine af.mk U (hc:=q2 _) (h:= ?_) | refine af.mk U (hc:=bk _) (h:= ?_)))));refine RW.nil ⟨by kernel_rfl,aa.mk (h:= ?_)⟩)
  refine SW.ret ?_
  exact End.mk [] (h4:=rfl)
 have hRl:R.1.length=l.length:=hD.cl.len
 have hRb:=hD.Jo b4
 have hXl:=Ab T s (L.map (·.dot))
 rw [List.length_map] at hXl
 have hXn:=G6 h.xM jJ hL hD.le
 have hag:=hD.again (xO T s (L.map (·.dot)))
 rw [hD.eq] at c1
 have hnd:=h.xM.FO (d:=o.aQ) hL
 have hsp:=fun x=>uT T s hnd x
 have D8:=zc (a:=a) (n:=T) (s:=s) hnd
 have hbd:∀ x,x∈L.map (·.dot)→aU s x+T<18446744073709551616:=fun x hx=>by
  obtain ⟨y,hy,hy2⟩:=List.mem_map.1 hx
  have hg:=h.xM.jE (d:=o.aQ) hL y hy
  rw [hy2] at hg
  exact lN h.xM s jJ hg (Nat.le_trans hD.le (xN _ hx))
 have hrt:rV (bM a s) (L.map (·.dot))<18446744073709551616:=by
  obtain ⟨x,hx⟩:=List.exists_mem_of_ne_nil _ hD.JA
  obtain ⟨y,hy,hy2⟩:=List.mem_map.1 hx
  have hg:=h.xM.jE (d:=o.aQ) hL y hy
  rw [hy2] at hg
  have h1:=xN (bM a s) hx
  have h2:bM a s x=y.cap - aU s x:=lM hg
  have h3:y.cap≤1099511627776:=h.xM.cap hg
  omega
 obtain ⟨X,hX⟩:∃ X,xO T s (L.map (·.dot))=X:=⟨_,rfl⟩
 rw [hX] at c1 hXl hXn hag hsp D8
 have c2:=fun k=>h.jg R.1 (by omega) hRb X (by omega) hXn o ho (by omega) L hL (by omega) k
 rw [hag] at c2
 have lT:=hD.lt
 have leT:=hD.le
 (have fx:=(And.intro (aG.xP) (And.intro (aG.len) (And.intro (aG.one) (sp2))));refine SW.ai [0,1,2,4,5,6,7,8,9,10,12,13,14,16,18,21,46,59,111,122,142] mixed ?_;(repeat (first | refine RW.ro fx (h:= ?_) | refine RW.skip (h:= ?_) | refine RW.op fx (h:= ?_) | refine RW.aF fx (h:= ?_) | refine RW.ah (h:= ?_) | (refine RW.ax (h:= ?_);(first | refine af.mk fx (hc:=c1 _) (h:= ?_)))));refine RW.nil ⟨by kernel_rfl,aa.mk (h:= ?_)⟩)
 refine SW.seq (SW.seq ?_)
 (refine SW.ai [0,1,2,4,5,6,7,8,9,10,12,13,14,16,18,21,46,59,111,122,142] mixed ?_;(repeat (first | refine RW.ro U (h:= ?_) | refine RW.skip (h:= ?_) | refine RW.op U (h:= ?_) | refine RW.aF U (h:= ?_) | refine RW.ah (h:= ?_)));refine RW.nil ⟨by kernel_rfl,aa.mk (h:= ?_)⟩)
 refine SW.ak rfl (SW.skip (SW.seq ?_))
 (refine SW.ai [0,1,2,4,5,6,7,8,9,10,12,13,14,16,18,21,46,59,111,122,142] mixed ?_;(repeat (first | refine RW.ro (And.intro (s7) (sp2)) (h:= ?_) | refine RW.skip (h:= ?_) | refine RW.op (And.intro (s7) (sp2)) (h:= ?_) | refine RW.aF (And.intro (s7) (sp2)) (h:= ?_) | refine RW.ah (h:= ?_) | (refine RW.ax (h:= ?_);(first | refine af.mk (And.intro (s7) (sp2)) (hc:=c2 _) (h:= ?_)))));refine RW.nil ⟨by kernel_rfl,aa.mk (h:= ?_)⟩)
 refine SW.seq (SW.seq ?_)
 have elR:decide (R.1=R.1)=true:=by simp
 have esX:decide (X=X)=true:=by simp
 have q1:=fun k=>kz R.1 R.1 (by omega) (by omega) hRb hRb k
 have q2:=fun k=>kG X X (by omega) (by omega) k
 rw [elR] at q1
 rw [esX] at q2
 (refine SW.ai [0,1,2,4,5,6,7,8,9,10,12,13,14,16,18,21,46,59,111,122,142] mixed ?_;(repeat (first | refine RW.ro U (h:= ?_) | refine RW.skip (h:= ?_) | refine RW.op U (h:= ?_) | refine RW.aF U (h:= ?_) | refine RW.ah (h:= ?_) | (refine RW.ax (h:= ?_);(first | refine af.mk U (hc:=q1 _) (h:= ?_) | refine af.mk U (hc:=q2 _) (h:= ?_)))));refine RW.nil ⟨by kernel_rfl,aa.mk (h:= ?_)⟩)
 refine SW.ak rfl (SW.skip (SW.seq ?_))
 obtain ⟨c,hgc⟩:∃ c,MM.get a o.aQ=some c:=Option.isSome_iff_exists.1 hD.has
 have c3:=fun k=>uO (l:=l0) (by omega) hr h.tok o.aQ L hL (by omega) k
 rw [show (Hs a ca m cm).at_=a from rfl,pn hgc] at c3
 (refine SW.ai [0,1,2,4,5,6,7,8,9,10,12,13,14,16,18,21,46,59,111,122,142] mixed ?_;(repeat (first | refine RW.ro U (h:= ?_) | refine RW.skip (h:= ?_) | refine RW.op U (h:= ?_) | refine RW.aF U (h:= ?_) | refine RW.ah (h:= ?_) | (refine RW.ax (h:= ?_);(first | refine af.mk U (hc:=c3 _) (h:= ?_)))));refine RW.nil ⟨by kernel_rfl,aa.mk (h:= ?_)⟩)
 refine SW.seq (SW.seq ?_)
 (refine SW.ai [0,1,2,4,5,6,7,8,9,10,12,13,14,16,18,21,46,59,111,122,142] mixed ?_;(repeat (first | refine RW.ro U (h:= ?_) | refine RW.skip (h:= ?_) | refine RW.op U (h:= ?_) | refine RW.aF U (h:= ?_) | refine RW.ah (h:= ?_)));refine RW.nil ⟨by kernel_rfl,aa.mk (h:= ?_)⟩)
 refine SW.block ?_
 have t1:=fun k=>h.Du (by omega) hr hwf s (by omega) o.aQ L hL (by omega) k
 have t2:=fun k=>h.Du (by omega) hr hwf X (by omega) o.aQ L hL (by omega) k
 rw [D8] at t2
 obtain ⟨B,hB⟩:∃ B,rV (bM a s) (L.map (·.dot))=B:=⟨_,rfl⟩
 obtain ⟨B2,hB2⟩:∃ B2,rV (bM a s) (L.map (·.dot)) - T=B2:=⟨_,rfl⟩
 rw [hB2] at t2
 rw [hB] at t1 hrt leT hB2
 have w1:IntKind.u64.wrap ((B:Int) - (B2:Int))=(T:Int):=by
  rw [show (B:Int) - (B2:Int)=(T:Int) by omega];exact wrap_u64 _ (by omega)
 have w2:((T:Int) == (T:Int))=true:=by simp
 have w3:decide ((B:Int)≥(B2:Int))=true:=by simp only [decide_eq_true_eq];omega
 have hDl:(L.map (·.dot)).length≤9:=by rw [List.length_map];exact hL9
 have b0:∀ y:Int,(y != y)=false:=fun y=>bne_self_eq_false y
 have oo:∀ q:Nat→Bool,SV.aI q (aG o.dot o.aQ o.who (fC (cI l R.2)) T)=true:=fun q=>rfl
 have orr:∀ ρ:Nat→Nat,SV.bh ρ (aG o.dot o.aQ o.who (fC (cI l R.2)) T)=aG o.dot o.aQ o.who (fC (cI l R.2)) T:=fun ρ=>rfl
 generalize hDD:L.map (·.dot)=D at hsp hbd hDl hD ⊢
 refine SW.c8 (α:={i:Nat // i≤D.length}) (fun i=>⟨[(16,i64 i.1),(14,ic D),(9,.ptr 6 0),(8,.ptr 5 0),(0,ops l0),(4,.ptr 3 0),(5,.ptr 4 0)],[(6,.box 26 [dD R.1,cF X]),(5,.box 45 (aG o.dot o.aQ o.who (fC (cI l R.2)) T)),(4,.box 35 o.cells),(3,.box 26 [dD l,cF s])],7⟩) (fun i=>D.length - i.1) ⟨0,by omega⟩ id (And.intro oo <| And.intro orr <| And.intro (aq.aj o) (aq.aD o)) (round:= ?_)
 rintro ⟨i,hi⟩
 dsimp only
 refine SW.seq (SW.seq ?_)
 by_cases hlt:i<D.length
 ·have h1:decide ((i:Int)<(D.length:Int))=true:=by simp only [decide_eq_true_eq];omega
  have e2:IntKind.i64.wrap ((i:Int)+1)=((i+1:Nat):Int):=wrap_i64 _ (by omega)
  obtain ⟨x,hx⟩:=aL hlt
  have hxm:=List.mem_of_getElem? hx
  have c4:=fun k=>mV X (by omega) x k
  have c5:=fun k=>mV s (by omega) x k
  have hx1:=hsp x
  rw [if_pos hxm] at hx1
  rw [hx1] at c4
  have hx2:=hbd x hxm
  obtain ⟨n,hn⟩:∃ n,aU s x=n:=⟨_,rfl⟩
  rw [hn] at c4 c5 hx2
  have w4:IntKind.u64.wrap (((n+T:Nat):Int))=((n+T:Nat):Int):=wrap_u64 _ (by omega)
  (refine SW.ai [0,1,2,4,5,6,7,8,9,10,12,13,14,16,18,21,46,59,111,122,142] mixed ?_;(repeat (first | refine RW.ro (h1) (h:= ?_) | refine RW.skip (h:= ?_) | refine RW.op (h1) (h:= ?_) | refine RW.aF (h1) (h:= ?_) | refine RW.ah (h:= ?_)));refine RW.nil ⟨by kernel_rfl,aa.mk (h:= ?_)⟩)
  refine SW.au rfl (SW.skip (SW.seq (SW.block (SW.seq ?_))))
  (have fx:=(And.intro (gf hx) (And.intro (hlt) (And.intro (w4) (b0))));refine SW.ai [0,1,2,4,5,6,7,8,9,10,12,13,14,16,18,21,46,59,111,122,142] mixed ?_;(repeat (first | refine RW.ro fx (h:= ?_) | refine RW.skip (h:= ?_) | refine RW.op fx (h:= ?_) | refine RW.aF fx (h:= ?_) | refine RW.ah (h:= ?_) | (refine RW.ax (h:= ?_);(first | refine af.mk fx (hc:=c4 _) (h:= ?_) | refine af.mk fx (hc:=c5 _) (h:= ?_)))));refine RW.nil ⟨by kernel_rfl,aa.mk (h:= ?_)⟩)
  refine SW.ak rfl (SW.skip ?_)
  (refine SW.ai [0,1,2,4,5,6,7,8,9,10,12,13,14,16,18,21,46,59,111,122,142] mixed ?_;(repeat (first | refine RW.ro (e2) (h:= ?_) | refine RW.skip (h:= ?_) | refine RW.op (e2) (h:= ?_) | refine RW.aF (e2) (h:= ?_) | refine RW.ah (h:= ?_)));refine RW.nil ⟨by kernel_rfl,aa.mk (h:= ?_)⟩)
  exact ⟨⟨i+1,by omega⟩,id,by show D.length - (i+1)<D.length - i;omega,bg.mk (And.intro oo <| And.intro orr <| And.intro (aq.aj o) (aq.aD o))⟩
 have h1:decide ((i:Int)<(D.length:Int))=false:=by simp only [decide_eq_false_iff_not];omega
 rw [hDD] at t1 t2
 (refine SW.ai [0,1,2,4,5,6,7,8,9,10,12,13,14,16,18,21,46,59,111,122,142] mixed ?_;(repeat (first | refine RW.ro (h1) (h:= ?_) | refine RW.skip (h:= ?_) | refine RW.op (h1) (h:= ?_) | refine RW.aF (h1) (h:= ?_) | refine RW.ah (h:= ?_)));refine RW.nil ⟨by kernel_rfl,aa.mk (h:= ?_)⟩)
 refine SW.ak rfl (SW.exit (SW.seq ?_))
 (refine SW.ai [0,1,2,4,5,6,7,8,9,10,12,13,14,16,18,21,46,59,111,122,142] mixed ?_;(repeat (first | refine RW.ro U (h:= ?_) | refine RW.skip (h:= ?_) | refine RW.op U (h:= ?_) | refine RW.aF U (h:= ?_) | refine RW.ah (h:= ?_) | (refine RW.ax (h:= ?_);(first | refine af.mk U (hc:=t1 _) (h:= ?_)))));refine RW.nil ⟨by kernel_rfl,aa.mk (h:= ?_)⟩)
 refine SW.seq ?_
 (refine SW.ai [0,1,2,4,5,6,7,8,9,10,12,13,14,16,18,21,46,59,111,122,142] mixed ?_;(repeat (first | refine RW.ro U (h:= ?_) | refine RW.skip (h:= ?_) | refine RW.op U (h:= ?_) | refine RW.aF U (h:= ?_) | refine RW.ah (h:= ?_) | (refine RW.ax (h:= ?_);(first | refine af.mk U (hc:=t2 _) (h:= ?_)))));refine RW.nil ⟨by kernel_rfl,aa.mk (h:= ?_)⟩)
 refine SW.seq ?_
 (have fx:=(And.intro (w1) (And.intro (w2) (w3)));refine SW.ai [0,1,2,4,5,6,7,8,9,10,12,13,14,16,18,21,46,59,111,122,142] mixed ?_;(repeat (first | refine RW.ro fx (h:= ?_) | refine RW.skip (h:= ?_) | refine RW.op fx (h:= ?_) | refine RW.aF fx (h:= ?_) | refine RW.ah (h:= ?_) | (refine RW.ax (h:= ?_);(first | refine af.mk fx (hc:=bk _) (h:= ?_)))));refine RW.nil ⟨by kernel_rfl,aa.mk (h:= ?_)⟩)
 refine SW.ret ?_
 exact End.mk [] (h4:=rfl)
end
end Go.Proofs.Ytefjaphfnkbbkaa
