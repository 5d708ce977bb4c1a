/-
 Submits: whose eyes saw what is claimed, plainly; Submit at other names.
-/
import Derived.Test.YtefjaphfnkbbkaaUR
set_option linter.unusedSectionVars false
set_option linter.unusedVariables false
set_option linter.unusedSimpArgs false
namespace Go.Proofs.Ytefjaphfnkbbkaa
open Go.Sl Go.Proofs Go.RowKit
section
theorem Tn.Fe {l0:List aq}{a:MM Dt Cr}{ca:Nat}{m:MM Dt aq}{cm:Nat}(h:Tn l0 a ca m cm)(l:List av)(hl:l.length≤1000)(hb:∀ x,x∈l→lW x)(s:List Sp)(hs:s.length<1000)(jJ:∀ x,x∈s→x.n<18446744073709551616)(o:aq)(ho:o.qW)(j_:o.cl.length≤1000)(L:List Cr)(hL:lZ a (MM.get a o.aQ) L)(xX:L.length<10000)(k:Nat):
  bp Try.prog claim_Submit.f [.ptr 4 0,.agg [dD l,cF s],.agg o.cells] [(4,.box 71 [.mp 2,.mp 3]),(2,.map (aH Dt.cells cv a) ca),(3,.map (aH Dt.cells ov m) cm)] k 0 (fD a l s o (L.map (·.dot))) [(4,.box 71 [.mp 2,.mp 3]),(2,.map (aH Dt.cells cv a) ca),(3,.map (aH Dt.cells ov m) cm)]:=by
 have:=SB.ej [2,3,4] (h.uU l hl hb s hs jJ o ho j_ L hL xX) (by decide) (fun i hi=>by
  match i,hi with
  | 0,_ | 1,_ | 2,_=>simp [ag]) k
 obtain ⟨_,_,m3,m4⟩:=pq a m
 rw [xQ,show Hp.aV (iq [2,3,4] k) (H2 a ca m cm)=[(4,.box 71 [.mp 2,.mp 3]),(2,.map (aH Dt.cells cv a) ca),(3,.map (aH Dt.cells ov m) cm)] by simp [Hp.aV,Ob.aV,SV.bh,SV.aV,iq,m3,m4]] at this
 simpa [SV.bh,SV.aV,iq,aq.aD] using this
structure Seen (l:List av)(who:Nat)(R:List av×List Nat)(T:Nat):Prop where
 cl:me l R
 may:∀ i x,i∈R.2→l[i]? =some x→∃ v,iW x v who=true
 t:gj (cI l R.2)=T
theorem Seen.none (l:List av)(who:Nat):Seen l who (l,[]) 0:=⟨me.zero l,(fun i x h=>by cases h),rfl⟩
theorem tA.seen {a:MM Dt Cr}{l:List av}{s:List Sp}{o:aq}{D:List Dt}{R:List av×List Nat}{T:Nat}(h:tA a l s o D R T):Seen l o.who R T:=
 ⟨h.cl,by rw [← h.r];exact ur _ _ _ (me.zero l) (fun i x h=>by cases h),h.t⟩
def tu (l:List av)(is:List Nat)(i:Nat):Nat:=gj (i_ l ((List.range i).filter fun j=>decide (j∈is)))
theorem Ff {l:List av}{is:List Nat}{i:Nat}{x:av}(hx:l[i]? =some x):tu l is (i+1)=if i∈is then (tu l is i+x.kn*x.cu) % 18446744073709551616 else tu l is i:=by
 unfold tu
 rw [List.range_succ,List.filter_append]
 by_cases h:i∈is
 ·rw [if_pos h]
  have:List.filter (fun j=>decide (j∈is)) [i]=[i]:=by simp [h]
  rw [this,sD l _ i x hx,pY]
 ·rw [if_neg h]
  have:List.filter (fun j=>decide (j∈is)) [i]=[]:=by simp [h]
  rw [this,List.append_nil]
theorem Seen.tot {l:List av}{who:Nat}{R:List av×List Nat}{T:Nat}(h:Seen l who R T):tu l R.2 l.length=T:=by
 rw [← h.t]
 unfold tu cI
 rw [Cz]
 refine uq (List.Perm.filterMap _ ?_)
 refine (List.perm_ext_iff_of_nodup (List.Pairwise.filter _ List.nodup_range) h.cl.nd).2 fun j=> ?_
 simp only [List.mem_filter,List.mem_range,decide_eq_true_eq]
 exact ⟨fun x=>x.2,fun x=>⟨h.cl.lt j x,x⟩⟩
theorem DE {l:List av}{is:List Nat}(hlt:∀ i,i∈is→i<l.length){k:Nat}{y:av}(h:(cI l is)[k]? =some y):∃ i x,is[k]? =some i∧l[i]? =some x∧y=x.gi:=by
 unfold cI at h
 rw [List.getElem?_map,uu hlt] at h
 cases hk:is[k]? with
 | none=>rw [hk] at h;cases h
 | some i=>
  rw [hk] at h
  cases hx:l[i]? with
  | none=>simp [hx] at h
  | some x=>simp [hx] at h;exact ⟨i,x,rfl,hx,h.symm⟩
theorem DF {l:List av}(hn:(l.map (·.dot)).Nodup){i j:Nat}{x y:av}(hx:l[i]? =some x)(hy:l[j]? =some y)(e:x.dot=y.dot):i=j:=by
 have h1:(l.map (·.dot))[i]? =some x.dot:=by rw [List.getElem?_map,hx];rfl
 have h2:(l.map (·.dot))[j]? =some x.dot:=by rw [List.getElem?_map,hy,e];rfl
 have hi:=bq h1
 exact (List.getElem?_inj hi hn).1 (h1.trans h2.symm)
end
section
attribute [local irreducible] SW RW bp SC af aa
theorem Ag {l:List av}{i:Nat}{x:av}(h:l[i]? =some x):List.take 2 (List.drop (i*10) (List.map SV.d (l.flatMap av.ds)))=x.dot.cells:=by
 have h1:List.take 2 (List.drop (i*10) (List.map SV.d (l.flatMap av.ds)))=(List.take 10 (List.drop (i*10) (List.map SV.d (l.flatMap av.ds)))).take 2:=by rw [List.take_take];rfl
 rw [h1,jB h,av.dO]
theorem pH {l:List av}{i:Nat}{x:av}(h:l[i]? =some x):(i*10+2≤(List.map SV.d (l.flatMap av.ds)).length)=True:=eq_true (by
 rw [List.length_map,vm]
 have:=bq h
 omega)
theorem DG {l:List av}{i:Nat}{x:av}(h:l[i]? =some x):List.take 2 (List.drop (i*8) (List.map SV.d (l.flatMap av.sy)))=x.dot.cells:=by
 have h1:List.take 2 (List.drop (i*8) (List.map SV.d (l.flatMap av.sy)))=(List.take 8 (List.drop (i*8) (List.map SV.d (l.flatMap av.sy)))).take 2:=by rw [List.take_take];rfl
 rw [h1,vn h,av.oV]
theorem uW {l:List av}{i:Nat}{x:av}(h:l[i]? =some x):(i*8+2≤(List.map SV.d (l.flatMap av.sy)).length)=True:=eq_true (by
 rw [List.length_map,sB]
 have:=bq h
 omega)
set_option maxRecDepth 100000 in
theorem Jd {P:Program}{env:List (Nat×SV)}{hp:Hp}{k d p:Nat}{r:List SI}{K:St→List (Bool×List Nat)→Prop}{a:av}{z:List SV}(hz:z=Ji)
  (ha:env.lookup p=some (.agg a.cells))
  (h:Go.Sl.RW P r ⟨(d,dD [a])::env,hp,k⟩ fun st' ts=>K st' ((false,[])::ts)):Go.Sl.RW P (⟨some d,.jL 58 10 1 z [(0,10,.t p)],none⟩::r) ⟨env,hp,k⟩ K:=by
 subst hz
 refine RW.cons (e:=⟨dD [a],[],[],0,((10=10∧0+10≤10∧True))⟩) (fun dw=>⟨.gu::dw,eP (.inl rfl) ?_⟩) (by show 10=10∧0+10≤10∧True;decide) ?_
 ·have h1:vU (fun t=>env.lookup t) [(0,10,X.t p)]=some [(0,10,.agg a.cells)]:=by
   simp only [vU,ev,ha]
  have h2:kL Ji [(0,10,.agg a.cells)]=some (a.cells,((10=10∧0+10≤10∧True))):=rfl
  have h3:dF a.cells=some ([a].flatMap av.ds):=rfl
  have h4:a.cells.all SV.cL=true:=rfl
  simp only [ek,cQ,h1,h2,h3,h4,if_true,Bool.false_or]
  rfl
 ·exact h
def zj (who:Nat)(xs:List Nat):Bool:=xs.any fun a=>decide (a≠who)
theorem G_ {α:Type}{A:α→Prop}{P:Program}{N k0:Nat}{c:cG}{Q:Exit→St→Prop}{G:Prop}(S:α→St)(h:(∀ a,A a→Go.Sl.SW P N k0 c (S a) Q)→G)(k:∀ a,A a→Go.Sl.SW P N k0 c (S a) Q):G:=h k
def IM (l:List av)(i:Nat):Prop:=∀ (p q:Nat) (c x:av),p<i→q<p→l[p]? =some c→l[q]? =some x→c.dot≠x.dot
theorem IM.nd {l:List av}(h:IM l l.length):(l.map (·.dot)).Nodup:=by
 rw [List.nodup_iff_pairwise_ne,List.pairwise_iff_getElem]
 intro i j hi hj hij
 rw [List.length_map] at hi hj
 rw [List.getElem_map,List.getElem_map]
 exact (h j i l[j] l[i] hj hij (List.getElem?_eq_getElem hj) (List.getElem?_eq_getElem hi)).symm
set_option maxRecDepth 100000 in
set_option maxHeartbeats 16000000 in
theorem zk (l0:List aq)(hr:∀ o,o∈l0→o.bn<256)(hwf:∀ o,o∈l0→o.dot.wf)(hw:∀ o,o∈l0→AF o)(hlen:l0.length≤9223372036854775807)
  (l:List av) (hl:l.length<4611686018427387904) (s:List Sp) (hs:s.length≤9223372036854775807) (jJ:∀ y,y∈s→y.n<18446744073709551616) (hsw:∀ y,y∈s→y.d.wf) (o:aq) (ho:o.qW):
  SB Try.prog law23_ClaimEyes.f [ops l0,.agg [dD l,cF s],.agg o.cells] [] 0 0 (fun r F=>r=bl true):=by
 have oc:∀ q:Nat→Bool,SV.aI q o.cells=true:=aq.aj o
 refine law23_ClaimEyes.enter (by simp [SV.ok,SV.aI,oc]) (by simp [Hp.ok]) (by simp) ?_
 dsimp only [law23_ClaimEyes.s,Co.M,Co.G,Co.J,Co.H,Co.N,Co.F,Co.C,Co.Z,Co.B,Co.b8,Co.aA,Co.bz,Co.i6,Co.z8,Co.dm]
 have hG':=sU l0 hw hlen
 have hQ':=n_ l hl s o ho
 refine SW.seq ?_
 (refine SW.ai [0,1,2,4,5,6,7,8,9,10,11,12,13,14,15,16,17,18,19,20,35,41,46,61,87,92,109,120,123,129,139,207] mixed ?_;(repeat (first | refine RW.ro U (h:= ?_) | refine RW.skip (h:= ?_) | refine RW.op U (h:= ?_) | refine RW.aF U (h:= ?_) | refine RW.ah (h:= ?_)));refine RW.nil ⟨by kernel_rfl,aa.mk (h:= ?_)⟩)
 refine SW.seq (SW.seq ?_)
 rcases hG:iB l0 with _ | _ <;> rw [hG] at hG'
 rotate_left
 ·
  (refine SW.ai [0,1,2,4,5,6,7,8,9,10,11,12,13,14,15,16,17,18,19,20,35,41,46,61,87,92,109,120,123,129,139,207] mixed ?_;(repeat (first | refine RW.ro U (h:= ?_) | refine RW.skip (h:= ?_) | refine RW.op U (h:= ?_) | refine RW.aF U (h:= ?_) | refine RW.ah (h:= ?_) | (refine RW.ax (h:= ?_);(first | refine af.mk U (hc:=hG' _) (h:= ?_) | refine af.mk U (hc:=bk _) (h:= ?_)))));refine RW.nil ⟨by kernel_rfl,aa.mk (h:= ?_)⟩)
  refine SW.au rfl (SW.seq ?_)
  (refine SW.ai [0,1,2,4,5,6,7,8,9,10,11,12,13,14,15,16,17,18,19,20,35,41,46,61,87,92,109,120,123,129,139,207] mixed ?_;(repeat (first | refine RW.ro U (h:= ?_) | refine RW.skip (h:= ?_) | refine RW.op U (h:= ?_) | refine RW.aF U (h:= ?_) | refine RW.ah (h:= ?_) | (refine RW.ax (h:= ?_);(first | refine af.mk U (hc:=hG' _) (h:= ?_) | refine af.mk U (hc:=bk _) (h:= ?_)))));refine RW.nil ⟨by kernel_rfl,aa.mk (h:= ?_)⟩)
  refine SW.ret ?_
  exact End.mk [] (h4:=rfl)
 have hl80:=qf hG
 by_cases h50:l0.length≤50
 rotate_left
 ·have g1:decide ((l0.length:Int)>50)=true:=by simp only [decide_eq_true_eq];omega
  (refine SW.ai [0,1,2,4,5,6,7,8,9,10,11,12,13,14,15,16,17,18,19,20,35,41,46,61,87,92,109,120,123,129,139,207] mixed ?_;(repeat (first | refine RW.ro (g1) (h:= ?_) | refine RW.skip (h:= ?_) | refine RW.op (g1) (h:= ?_) | refine RW.aF (g1) (h:= ?_) | refine RW.ah (h:= ?_) | (refine RW.ax (h:= ?_);(first | refine af.mk (g1) (hc:=hG' _) (h:= ?_) | refine af.mk (g1) (hc:=bk _) (h:= ?_)))));refine RW.nil ⟨by kernel_rfl,aa.mk (h:= ?_)⟩)
  refine SW.au rfl (SW.seq ?_)
  (refine SW.ai [0,1,2,4,5,6,7,8,9,10,11,12,13,14,15,16,17,18,19,20,35,41,46,61,87,92,109,120,123,129,139,207] mixed ?_;(repeat (first | refine RW.ro U (h:= ?_) | refine RW.skip (h:= ?_) | refine RW.op U (h:= ?_) | refine RW.aF U (h:= ?_) | refine RW.ah (h:= ?_) | (refine RW.ax (h:= ?_);(first | refine af.mk U (hc:=hG' _) (h:= ?_) | refine af.mk U (hc:=bk _) (h:= ?_)))));refine RW.nil ⟨by kernel_rfl,aa.mk (h:= ?_)⟩)
  refine SW.ret ?_
  exact End.mk [] (h4:=rfl)
 have g1:decide ((l0.length:Int)>50)=false:=by simp only [decide_eq_false_iff_not];omega
 rcases hQ:Bt l s.length o.cl.length with _ | _ <;> rw [hQ] at hQ'
 rotate_left
 ·
  (refine SW.ai [0,1,2,4,5,6,7,8,9,10,11,12,13,14,15,16,17,18,19,20,35,41,46,61,87,92,109,120,123,129,139,207] mixed ?_;(repeat (first | refine RW.ro (g1) (h:= ?_) | refine RW.skip (h:= ?_) | refine RW.op (g1) (h:= ?_) | refine RW.aF (g1) (h:= ?_) | refine RW.ah (h:= ?_) | (refine RW.ax (h:= ?_);(first | refine af.mk (g1) (hc:=hG' _) (h:= ?_) | refine af.mk (g1) (hc:=hQ' _) (h:= ?_) | refine af.mk (g1) (hc:=bk _) (h:= ?_)))));refine RW.nil ⟨by kernel_rfl,aa.mk (h:= ?_)⟩)
  refine SW.au rfl (SW.seq ?_)
  (refine SW.ai [0,1,2,4,5,6,7,8,9,10,11,12,13,14,15,16,17,18,19,20,35,41,46,61,87,92,109,120,123,129,139,207] mixed ?_;(repeat (first | refine RW.ro U (h:= ?_) | refine RW.skip (h:= ?_) | refine RW.op U (h:= ?_) | refine RW.aF U (h:= ?_) | refine RW.ah (h:= ?_) | (refine RW.ax (h:= ?_);(first | refine af.mk U (hc:=hG' _) (h:= ?_) | refine af.mk U (hc:=hQ' _) (h:= ?_) | refine af.mk U (hc:=bk _) (h:= ?_)))));refine RW.nil ⟨by kernel_rfl,aa.mk (h:= ?_)⟩)
  refine SW.ret ?_
  exact End.mk [] (h4:=rfl)
 have gb:=yP hQ
 obtain ⟨b1,b2,b3,b4⟩:=gb
 (refine SW.ai [0,1,2,4,5,6,7,8,9,10,11,12,13,14,15,16,17,18,19,20,35,41,46,61,87,92,109,120,123,129,139,207] mixed ?_;(repeat (first | refine RW.ro (g1) (h:= ?_) | refine RW.skip (h:= ?_) | refine RW.op (g1) (h:= ?_) | refine RW.aF (g1) (h:= ?_) | refine RW.ah (h:= ?_) | (refine RW.ax (h:= ?_);(first | refine af.mk (g1) (hc:=hG' _) (h:= ?_) | refine af.mk (g1) (hc:=hQ' _) (h:= ?_)))));refine RW.nil ⟨by kernel_rfl,aa.mk (h:= ?_)⟩)
 refine SW.ak rfl (SW.skip (SW.seq ?_))
 refine SW.seq ?_
 (refine SW.ai [0,1,2,4,5,6,7,8,9,10,11,12,13,14,15,16,17,18,19,20,35,41,46,61,87,92,109,120,123,129,139,207] mixed ?_;(repeat (first | refine RW.ro U (h:= ?_) | refine RW.skip (h:= ?_) | refine RW.op U (h:= ?_) | refine RW.aF U (h:= ?_) | refine RW.ah (h:= ?_)));refine RW.nil ⟨by kernel_rfl,aa.mk (h:= ?_)⟩)
 refine SW.block ?_
 have u0:IM l 0:=fun p q c x h1 h2 h3 h4=>by omega
 have ou:=aq.aD o
 refine SW.c8 (α:={i:Nat // i≤l.length∧IM l i}) (fun i=>⟨[(7,i64 i.1),(0,ops l0),(4,.ptr 0 0),(5,.ptr 1 0)],[(1,.box 35 o.cells),(0,.box 26 [dD l,cF s])],2⟩) (fun i=>l.length - i.1) ⟨0,by omega,u0⟩ id (And.intro oc ou) (round:= ?_)
 rintro ⟨i,hi,hu⟩
 dsimp only
 refine SW.seq (SW.seq ?_)
 by_cases h:i<l.length
 ·have h1:decide ((i:Int)<(l.length:Int))=true:=by simp only [decide_eq_true_eq];omega
  have e2:IntKind.i64.wrap ((i:Int)+1)=((i+1:Nat):Int):=wrap_i64 _ (by omega)
  obtain ⟨c,hc⟩:=aL h
  (refine SW.ai [0,1,2,4,5,6,7,8,9,10,11,12,13,14,15,16,17,18,19,20,35,41,46,61,87,92,109,120,123,129,139,207] mixed ?_;(repeat (first | refine RW.ro (h1) (h:= ?_) | refine RW.skip (h:= ?_) | refine RW.op (h1) (h:= ?_) | refine RW.aF (h1) (h:= ?_) | refine RW.ah (h:= ?_)));refine RW.nil ⟨by kernel_rfl,aa.mk (h:= ?_)⟩)
  refine SW.au rfl (SW.skip (SW.seq (SW.block (SW.seq ?_))))
  (refine SW.ai [0,1,2,4,5,6,7,8,9,10,11,12,13,14,15,16,17,18,19,20,35,41,46,61,87,92,109,120,123,129,139,207] mixed ?_;(repeat (first | refine RW.ro U (h:= ?_) | refine RW.skip (h:= ?_) | refine RW.op U (h:= ?_) | refine RW.aF U (h:= ?_) | refine RW.ah (h:= ?_)));refine RW.nil ⟨by kernel_rfl,aa.mk (h:= ?_)⟩)
  refine SW.block ?_
  refine SW.c8 (α:={k:Nat // k≤i∧∀ q x,q<k→l[q]? =some x→c.dot≠x.dot}) (fun k=>⟨[(8,i64 k.1),(7,i64 i),(0,ops l0),(4,.ptr 0 0),(5,.ptr 1 0)],[(1,.box 35 o.cells),(0,.box 26 [dD l,cF s])],2⟩) (fun k=>i - k.1) ⟨0,by omega,by omega⟩ id (And.intro oc ou) (round:= ?_)
  rintro ⟨k,hk,hks⟩
  dsimp only
  refine SW.seq (SW.seq ?_)
  by_cases hki:k<i
  ·have h2:decide ((k:Int)<(i:Int))=true:=by simp only [decide_eq_true_eq];omega
   have e3:IntKind.i64.wrap ((k:Int)+1)=((k+1:Nat):Int):=wrap_i64 _ (by omega)
   obtain ⟨x,hx⟩:=aL (show k<l.length by omega)
   have hkl:k<l.length:=by omega
   (refine SW.ai [0,1,2,4,5,6,7,8,9,10,11,12,13,14,15,16,17,18,19,20,35,41,46,61,87,92,109,120,123,129,139,207] mixed ?_;(repeat (first | refine RW.ro (h2) (h:= ?_) | refine RW.skip (h:= ?_) | refine RW.op (h2) (h:= ?_) | refine RW.aF (h2) (h:= ?_) | refine RW.ah (h:= ?_)));refine RW.nil ⟨by kernel_rfl,aa.mk (h:= ?_)⟩)
   refine SW.au rfl (SW.skip (SW.seq (SW.block (SW.seq ?_))))
   by_cases he:c.dot=x.dot
   ·have q1:decide (c.dot=x.dot)=true:=by simp [he]
    (have fx:=(And.intro (Ag hc) (And.intro (pH hc) (And.intro (Ag hx) (And.intro (pH hx) (And.intro (h) (And.intro (hkl) (q1)))))));refine SW.ai [0,1,2,4,5,6,7,8,9,10,11,12,13,14,15,16,17,18,19,20,35,41,46,61,87,92,109,120,123,129,139,207] mixed ?_;(repeat (first | refine RW.ro fx (h:= ?_) | refine RW.skip (h:= ?_) | refine RW.op fx (h:= ?_) | refine RW.aF fx (h:= ?_) | refine RW.ah (h:= ?_)));refine RW.nil ⟨by kernel_rfl,aa.mk (h:= ?_)⟩)
    refine SW.au rfl (SW.seq ?_)
    (refine SW.ai [0,1,2,4,5,6,7,8,9,10,11,12,13,14,15,16,17,18,19,20,35,41,46,61,87,92,109,120,123,129,139,207] mixed ?_;(repeat (first | refine RW.ro U (h:= ?_) | refine RW.skip (h:= ?_) | refine RW.op U (h:= ?_) | refine RW.aF U (h:= ?_) | refine RW.ah (h:= ?_) | (refine RW.ax (h:= ?_);(first | refine af.mk U (hc:=bk _) (h:= ?_)))));refine RW.nil ⟨by kernel_rfl,aa.mk (h:= ?_)⟩)
    refine SW.ret ?_
    exact End.mk [] (h4:=rfl)
   ·have q1:decide (c.dot=x.dot)=false:=by simp [he]
    (have fx:=(And.intro (Ag hc) (And.intro (pH hc) (And.intro (Ag hx) (And.intro (pH hx) (And.intro (h) (And.intro (hkl) (q1)))))));refine SW.ai [0,1,2,4,5,6,7,8,9,10,11,12,13,14,15,16,17,18,19,20,35,41,46,61,87,92,109,120,123,129,139,207] mixed ?_;(repeat (first | refine RW.ro fx (h:= ?_) | refine RW.skip (h:= ?_) | refine RW.op fx (h:= ?_) | refine RW.aF fx (h:= ?_) | refine RW.ah (h:= ?_)));refine RW.nil ⟨by kernel_rfl,aa.mk (h:= ?_)⟩)
    refine SW.ak rfl (SW.skip ?_)
    (refine SW.ai [0,1,2,4,5,6,7,8,9,10,11,12,13,14,15,16,17,18,19,20,35,41,46,61,87,92,109,120,123,129,139,207] mixed ?_;(repeat (first | refine RW.ro (e3) (h:= ?_) | refine RW.skip (h:= ?_) | refine RW.op (e3) (h:= ?_) | refine RW.aF (e3) (h:= ?_) | refine RW.ah (h:= ?_)));refine RW.nil ⟨by kernel_rfl,aa.mk (h:= ?_)⟩)
    refine ⟨⟨k+1,by omega,fun q y hq hy=> ?_⟩,id,by show i - (k+1)<i - k;omega,bg.mk (And.intro oc ou)⟩
    by_cases hqk:q=k
    ·subst hqk;rw [hx] at hy;rw [← Option.some.inj hy];exact he
    ·exact hks q y (by omega) hy
  ·have h2:decide ((k:Int)<(i:Int))=false:=by simp only [decide_eq_false_iff_not];omega
   have hki2:k=i:=by omega
   subst hki2
   (refine SW.ai [0,1,2,4,5,6,7,8,9,10,11,12,13,14,15,16,17,18,19,20,35,41,46,61,87,92,109,120,123,129,139,207] mixed ?_;(repeat (first | refine RW.ro (h2) (h:= ?_) | refine RW.skip (h:= ?_) | refine RW.op (h2) (h:= ?_) | refine RW.aF (h2) (h:= ?_) | refine RW.ah (h:= ?_)));refine RW.nil ⟨by kernel_rfl,aa.mk (h:= ?_)⟩)
   refine SW.ak rfl (SW.exit ?_)
   refine (?_:Sl.SW _ _ _ _ _ _)
   (refine SW.ai [0,1,2,4,5,6,7,8,9,10,11,12,13,14,15,16,17,18,19,20,35,41,46,61,87,92,109,120,123,129,139,207] mixed ?_;(repeat (first | refine RW.ro (e2) (h:= ?_) | refine RW.skip (h:= ?_) | refine RW.op (e2) (h:= ?_) | refine RW.aF (e2) (h:= ?_) | refine RW.ah (h:= ?_)));refine RW.nil ⟨by kernel_rfl,aa.mk (h:= ?_)⟩)
   refine ⟨⟨k+1,by omega,fun p q c' x hp hq hc' hx=> ?_⟩,id,by show l.length - (k+1)<l.length - k;omega,bg.mk (And.intro oc ou)⟩
   by_cases hpk:p=k
   ·subst hpk;rw [hc] at hc';rw [← Option.some.inj hc'];exact hks q x hq hx
   ·exact hu p q c' x (by omega) hq hc' hx
 have h1:decide ((i:Int)<(l.length:Int))=false:=by simp only [decide_eq_false_iff_not];omega
 have hil:i=l.length:=by omega
 subst hil
 have hnd:=hu.nd
 (refine SW.ai [0,1,2,4,5,6,7,8,9,10,11,12,13,14,15,16,17,18,19,20,35,41,46,61,87,92,109,120,123,129,139,207] mixed ?_;(repeat (first | refine RW.ro (h1) (h:= ?_) | refine RW.skip (h:= ?_) | refine RW.op (h1) (h:= ?_) | refine RW.aF (h1) (h:= ?_) | refine RW.ah (h:= ?_)));refine RW.nil ⟨by kernel_rfl,aa.mk (h:= ?_)⟩)
 refine SW.ak rfl (SW.exit (SW.seq ?_))
 obtain ⟨a,ca,m,cm,h⟩:=z7 l0
 have ht:=h.tok
 obtain ⟨L,hL,hL9,_⟩:=ht.I9 o.aQ
 have c1:=fun k=>h.Fe l (by omega) b4 s (by omega) jJ o ho (by omega) L hL (by omega) k
 have s7:bE dP 0 dP=dP:=rfl
 have sp2:∀ x y:SV,bE [SV.d DV.ay,SV.d DV.ay] 0 [x,y]=[x,y]:=fun x y=>rfl
 have oo':∀ (q:Nat→Bool) (d c:Dt) (w:Nat) (xs:List av) (t:Nat),SV.aI q (aG d c w (fC xs) t)=true:=fun q d c w xs t=>rfl
 have orr':∀ (ρ:Nat→Nat) (d c:Dt) (w:Nat) (xs:List av) (t:Nat),SV.bh ρ (aG d c w (fC xs) t)=aG d c w (fC xs) t:=fun ρ d c w xs t=>rfl
 have on':cI l []=[]:=rfl
 apply G_ (α:=(List av×List Nat)×Nat×Dt×Dt×Nat×List Sp) (A:=fun q=>Seen l o.who q.1 q.2.1) (S:=fun q=>⟨[(10,.ptr 3 0),(9,.ptr 2 0),(4,.ptr 0 0),(5,.ptr 1 0)],[(3,.box 26 [dD q.1.1,cF q.2.2.2.2.2]),(2,.box 45 (aG q.2.2.1 q.2.2.2.1 q.2.2.2.2.1 (fC (cI l q.1.2)) q.2.1)),(1,.box 35 o.cells),(0,.box 26 [dD l,cF s])],4⟩)
 ·intro late
  rcases uV a l s o (L.map (·.dot)) with ⟨e,he,hsub⟩ | ⟨R,T,hD⟩
  ·rw [hsub] at c1
   have qe:((e:Int) == 1)=false:=by rw [beq_eq_false_iff_ne];omega
   have qb:((l.length:Int) != (l.length:Int))=false:=bne_self_eq_false _
   (refine SW.ai [0,1,2,4,5,6,7,8,9,10,11,12,13,14,15,16,17,18,19,20,35,41,46,61,87,92,109,120,123,129,139,207] mixed ?_;(repeat (first | refine RW.ro (And.intro (s7) (sp2)) (h:= ?_) | refine RW.skip (h:= ?_) | refine RW.op (And.intro (s7) (sp2)) (h:= ?_) | refine RW.aF (And.intro (s7) (sp2)) (h:= ?_) | refine RW.ah (h:= ?_) | (refine RW.ax (h:= ?_);(first | refine af.mk (And.intro (s7) (sp2)) (hc:=h.DA (by omega)) (h:= ?_) | refine af.mk (And.intro (s7) (sp2)) (hc:=c1 _) (h:= ?_)))));refine RW.nil ⟨by kernel_rfl,aa.mk (h:= ?_)⟩)
   refine SW.seq (SW.seq ?_)
   (refine SW.ai [0,1,2,4,5,6,7,8,9,10,11,12,13,14,15,16,17,18,19,20,35,41,46,61,87,92,109,120,123,129,139,207] mixed ?_;(repeat (first | refine RW.ro (And.intro (qe) (qb)) (h:= ?_) | refine RW.skip (h:= ?_) | refine RW.op (And.intro (qe) (qb)) (h:= ?_) | refine RW.aF (And.intro (qe) (qb)) (h:= ?_) | refine RW.ah (h:= ?_)));refine RW.nil ⟨by kernel_rfl,aa.mk (h:= ?_)⟩)
   refine SW.ak rfl (SW.skip ?_)
   refine SW.H9 9 (cs':=aG ⟨0,0⟩ ⟨0,0⟩ 0 (fC []) 0) rfl (fun p μ M vs hv=>kr (kr (kr (kr (kr (iR (kr fun _ h=>h)))))) vs hv) ?_
   simp only [ia,Nat.reduceEqDiff,if_true,if_false,reduceIte]
   exact SW.weak (fun n=>if n=2 then 9 else if n=3 then 10 else n) (by dsimp only;exact bg.mk (And.intro on' <| And.intro oo' <| And.intro orr' <| And.intro oc ou)) (late ((l,[]),0,⟨0,0⟩,⟨0,0⟩,0,s) (Seen.none l o.who))
  ·rw [hD.eq] at c1
   have hRl:R.1.length=l.length:=hD.cl.len
   have qb:((R.1.length:Int) != (l.length:Int))=false:=by rw [hRl];exact bne_self_eq_false _
   have qo:decide (((cI l R.2).length:Int)>0)=true:=by
    rw [mC hD.cl.lt]
    have:=List.length_pos_iff.2 hD.ne
    simp only [decide_eq_true_eq];omega
   generalize xO T s (L.map (·.dot))=X at c1
   (have fx:=(And.intro (aG.xP) (And.intro (aG.len) (And.intro (aG.one) (sp2))));refine SW.ai [0,1,2,4,5,6,7,8,9,10,11,12,13,14,15,16,17,18,19,20,35,41,46,61,87,92,109,120,123,129,139,207] mixed ?_;(repeat (first | refine RW.ro fx (h:= ?_) | refine RW.skip (h:= ?_) | refine RW.op fx (h:= ?_) | refine RW.aF fx (h:= ?_) | refine RW.ah (h:= ?_) | (refine RW.ax (h:= ?_);(first | refine af.mk fx (hc:=h.DA (by omega)) (h:= ?_) | refine af.mk fx (hc:=c1 _) (h:= ?_)))));refine RW.nil ⟨by kernel_rfl,aa.mk (h:= ?_)⟩)
   refine SW.seq (SW.seq ?_)
   (refine SW.ai [0,1,2,4,5,6,7,8,9,10,11,12,13,14,15,16,17,18,19,20,35,41,46,61,87,92,109,120,123,129,139,207] mixed ?_;(repeat (first | refine RW.ro (And.intro (qo) (qb)) (h:= ?_) | refine RW.skip (h:= ?_) | refine RW.op (And.intro (qo) (qb)) (h:= ?_) | refine RW.aF (And.intro (qo) (qb)) (h:= ?_) | refine RW.ah (h:= ?_)));refine RW.nil ⟨by kernel_rfl,aa.mk (h:= ?_)⟩)
   refine SW.ak rfl (SW.skip ?_)
   exact SW.weak (fun n=>if n=2 then 9 else if n=3 then 10 else n) (by dsimp only;exact bg.mk (And.intro oo' <| And.intro orr' <| And.intro oc ou)) (late (R,T,o.dot,o.aQ,o.who,X) hD.seen)
 rintro ⟨R,T,dd,cc,ww,X⟩ hA
 dsimp only at hA ⊢
 have j_:=hA.cl
 have hRl:R.1.length=l.length:=j_.len
 have hol:=mC j_.lt
 have hisl:R.2.length≤l.length:=sR l.length j_.nd j_.lt
 obtain ⟨out,hout⟩:∃ out,cI l R.2=out:=⟨_,rfl⟩
 rw [hout] at hol
 have hog:∀ k y,out[k]? =some y→∃ (i:Nat) (x:av),R.2[k]? =some i∧l[i]? =some x∧y=x.gi:=fun k y hk=>DE j_.lt (by rw [hout];exact hk)
 rw [hout]
 have oo:∀ q:Nat→Bool,SV.aI q (aG dd cc ww (fC out) T)=true:=fun q=>rfl
 have orr:∀ ρ:Nat→Nat,SV.bh ρ (aG dd cc ww (fC out) T)=aG dd cc ww (fC out) T:=fun ρ=>rfl
 have z0:tu l R.2 0=0:=rfl
 refine SW.seq ?_
 (refine SW.ai [0,1,2,4,5,6,7,8,9,10,11,12,13,14,15,16,17,18,19,20,35,41,46,61,87,92,109,120,123,129,139,207] mixed ?_;(repeat (first | refine RW.ro U (h:= ?_) | refine RW.skip (h:= ?_) | refine RW.op U (h:= ?_) | refine RW.aF U (h:= ?_) | refine RW.ah (h:= ?_)));refine RW.nil ⟨by kernel_rfl,aa.mk (h:= ?_)⟩)
 refine SW.seq (SW.seq ?_)
 (refine SW.ai [0,1,2,4,5,6,7,8,9,10,11,12,13,14,15,16,17,18,19,20,35,41,46,61,87,92,109,120,123,129,139,207] mixed ?_;(repeat (first | refine RW.ro U (h:= ?_) | refine RW.skip (h:= ?_) | refine RW.op U (h:= ?_) | refine RW.aF U (h:= ?_) | refine RW.ah (h:= ?_)));refine RW.nil ⟨by kernel_rfl,aa.mk (h:= ?_)⟩)
 refine SW.block ?_
 refine SW.c8 (α:={i:Nat // i≤l.length}) (fun i=>⟨[(13,i64 i.1),(12,.d (.int .u64 ((tu l R.2 i.1:Nat):Int))),(10,.ptr 3 0),(9,.ptr 2 0),(4,.ptr 0 0),(5,.ptr 1 0)],[(3,.box 26 [dD R.1,cF X]),(2,.box 45 (aG dd cc ww (fC out) T)),(1,.box 35 o.cells),(0,.box 26 [dD l,cF s])],4⟩) (fun i=>l.length - i.1) ⟨0,by omega⟩ id (And.intro z0 <| And.intro oo <| And.intro orr <| And.intro oc ou) (round:= ?_)
 rintro ⟨i,hi⟩
 dsimp only
 refine SW.seq (SW.seq ?_)
 by_cases hil:i<l.length
 ·have h1:decide ((i:Int)<(l.length:Int))=true:=by simp only [decide_eq_true_eq];omega
  have e2:IntKind.i64.wrap ((i:Int)+1)=((i+1:Nat):Int):=wrap_i64 _ (by omega)
  have hil2:i<R.1.length:=by omega
  obtain ⟨x,hx⟩:=aL hil
  have Bs:=b4 x (List.mem_of_getElem? hx)
  have hbg:=j_.get i x hx
  have htu:=Ff (is:=R.2) hx
  (refine SW.ai [0,1,2,4,5,6,7,8,9,10,11,12,13,14,15,16,17,18,19,20,35,41,46,61,87,92,109,120,123,129,139,207] mixed ?_;(repeat (first | refine RW.ro (h1) (h:= ?_) | refine RW.skip (h:= ?_) | refine RW.op (h1) (h:= ?_) | refine RW.aF (h1) (h:= ?_) | refine RW.ah (h:= ?_)));refine RW.nil ⟨by kernel_rfl,aa.mk (h:= ?_)⟩)
  refine SW.au rfl (SW.skip (SW.seq (SW.block (SW.seq ?_))))
  obtain ⟨b,hb⟩:∃ b,(if i∈R.2 then x.gi else x)=b:=⟨_,rfl⟩
  rw [hb] at hbg
  (have fx:=(And.intro (jB hx) (And.intro (dV hx) (And.intro (jB hbg) (And.intro (dV hbg) (And.intro (yM) (And.intro (hil) (hil2)))))));refine SW.ai [0,1,2,4,5,6,7,8,9,10,11,12,13,14,15,16,17,18,19,20,35,41,46,61,87,92,109,120,123,129,139,207] mixed ?_;(repeat (first | refine RW.ro fx (h:= ?_) | refine RW.skip (h:= ?_) | refine RW.op fx (h:= ?_) | refine RW.aF fx (h:= ?_) | refine RW.ah (h:= ?_)));refine RW.nil ⟨by kernel_rfl,aa.mk (h:= ?_)⟩)
  refine SW.seq ?_
  (refine SW.ai [0,1,2,4,5,6,7,8,9,10,11,12,13,14,15,16,17,18,19,20,35,41,46,61,87,92,109,120,123,129,139,207] mixed ?_;(repeat (first | refine RW.ro U (h:= ?_) | refine RW.skip (h:= ?_) | refine RW.op U (h:= ?_) | refine RW.aF U (h:= ?_) | refine RW.ah (h:= ?_)));refine RW.nil ⟨by kernel_rfl,aa.mk (h:= ?_)⟩)
  refine SW.seq (SW.seq ?_)
  (refine SW.ai [0,1,2,4,5,6,7,8,9,10,11,12,13,14,15,16,17,18,19,20,35,41,46,61,87,92,109,120,123,129,139,207] mixed ?_;(repeat (first | refine RW.ro U (h:= ?_) | refine RW.skip (h:= ?_) | refine RW.op U (h:= ?_) | refine RW.aF U (h:= ?_) | refine RW.ah (h:= ?_)));refine RW.nil ⟨by kernel_rfl,aa.mk (h:= ?_)⟩)
  refine SW.block ?_
  refine SW.c8 (α:={p:Nat×Int // p.1≤out.length∧((∀ k' j,k'<p.1→R.2[k']? =some j→j≠i)∧p.2= -1∨∃ k':Nat,k'<p.1∧R.2[k']? =some i∧p.2=(k':Int))}) (fun p=>⟨[(17,i64 p.1.1),(16,.d (.int .i64 p.1.2)),(14,.ptr 4 0),(15,.ptr 5 0),(13,i64 i),(12,.d (.int .u64 ((tu l R.2 i:Nat):Int))),(10,.ptr 3 0),(9,.ptr 2 0),(4,.ptr 0 0),(5,.ptr 1 0)],[(5,.box 58 b.cells),(4,.box 58 x.cells),(3,.box 26 [dD R.1,cF X]),(2,.box 45 (aG dd cc ww (fC out) T)),(1,.box 35 o.cells),(0,.box 26 [dD l,cF s])],6⟩) (fun p=>out.length - p.1.1) ⟨(0,-1),Nat.zero_le _,.inl ⟨by omega,rfl⟩⟩ id (And.intro oo <| And.intro orr <| And.intro oc <| And.intro ou <| And.intro (av.aj x) <| And.intro (av.aD x) <| And.intro (av.aj b) (av.aD b)) (round:= ?_)
  rintro ⟨⟨k,v⟩,hk,hv⟩
  dsimp only at hk hv ⊢
  refine SW.seq (SW.seq ?_)
  by_cases qM:k<out.length
  ·have h2:decide ((k:Int)<(out.length:Int))=true:=by simp only [decide_eq_true_eq];omega
   have e3:IntKind.i64.wrap ((k:Int)+1)=((k+1:Nat):Int):=wrap_i64 _ (by omega)
   obtain ⟨y,hy⟩:=aL qM
   obtain ⟨j,x',hj,hx',rfl⟩:=hog k y hy
   (refine SW.ai [0,1,2,4,5,6,7,8,9,10,11,12,13,14,15,16,17,18,19,20,35,41,46,61,87,92,109,120,123,129,139,207] mixed ?_;(repeat (first | refine RW.ro (h2) (h:= ?_) | refine RW.skip (h:= ?_) | refine RW.op (h2) (h:= ?_) | refine RW.aF (h2) (h:= ?_) | refine RW.ah (h:= ?_)));refine RW.nil ⟨by kernel_rfl,aa.mk (h:= ?_)⟩)
   refine SW.au rfl (SW.skip (SW.seq (SW.block (SW.seq ?_))))
   by_cases hji:j=i
   ·subst hji
    rw [hx] at hx'
    obtain rfl:=Option.some.inj hx'
    have q1:decide (x.gi.dot=x.dot)=true:=by simp [av.gi]
    (have fx:=(And.intro (DG hy) (And.intro (uW hy) (And.intro (qM) (q1))));refine SW.ai [0,1,2,4,5,6,7,8,9,10,11,12,13,14,15,16,17,18,19,20,35,41,46,61,87,92,109,120,123,129,139,207] mixed ?_;(repeat (first | refine RW.ro fx (h:= ?_) | refine RW.skip (h:= ?_) | refine RW.op fx (h:= ?_) | refine RW.aF fx (h:= ?_) | refine RW.ah (h:= ?_)));refine RW.nil ⟨by kernel_rfl,aa.mk (h:= ?_)⟩)
    refine SW.au rfl ?_
    (refine SW.ai [0,1,2,4,5,6,7,8,9,10,11,12,13,14,15,16,17,18,19,20,35,41,46,61,87,92,109,120,123,129,139,207] mixed ?_;(repeat (first | refine RW.ro U (h:= ?_) | refine RW.skip (h:= ?_) | refine RW.op U (h:= ?_) | refine RW.aF U (h:= ?_) | refine RW.ah (h:= ?_)));refine RW.nil ⟨by kernel_rfl,aa.mk (h:= ?_)⟩)
    (refine SW.ai [0,1,2,4,5,6,7,8,9,10,11,12,13,14,15,16,17,18,19,20,35,41,46,61,87,92,109,120,123,129,139,207] mixed ?_;(repeat (first | refine RW.ro (e3) (h:= ?_) | refine RW.skip (h:= ?_) | refine RW.op (e3) (h:= ?_) | refine RW.aF (e3) (h:= ?_) | refine RW.ah (h:= ?_)));refine RW.nil ⟨by kernel_rfl,aa.mk (h:= ?_)⟩)
    refine ⟨⟨(k+1,(k:Int)),by show k+1≤_;omega,.inr ⟨k,by show k<k+1;omega,hj,rfl⟩⟩,id,by show out.length - (k+1)<out.length - k;omega,bg.mk (And.intro oo <| And.intro orr <| And.intro oc <| And.intro ou <| And.intro (av.aj x) <| And.intro (av.aD x) <| And.intro (av.aj b) (av.aD b))⟩
   ·have q1:decide (x'.gi.dot=x.dot)=false:=by
     rw [decide_eq_false_iff_not]
     intro e
     exact hji (DF hnd hx' hx e)
    (have fx:=(And.intro (DG hy) (And.intro (uW hy) (And.intro (qM) (q1))));refine SW.ai [0,1,2,4,5,6,7,8,9,10,11,12,13,14,15,16,17,18,19,20,35,41,46,61,87,92,109,120,123,129,139,207] mixed ?_;(repeat (first | refine RW.ro fx (h:= ?_) | refine RW.skip (h:= ?_) | refine RW.op fx (h:= ?_) | refine RW.aF fx (h:= ?_) | refine RW.ah (h:= ?_)));refine RW.nil ⟨by kernel_rfl,aa.mk (h:= ?_)⟩)
    refine SW.ak rfl (SW.skip ?_)
    (refine SW.ai [0,1,2,4,5,6,7,8,9,10,11,12,13,14,15,16,17,18,19,20,35,41,46,61,87,92,109,120,123,129,139,207] mixed ?_;(repeat (first | refine RW.ro (e3) (h:= ?_) | refine RW.skip (h:= ?_) | refine RW.op (e3) (h:= ?_) | refine RW.aF (e3) (h:= ?_) | refine RW.ah (h:= ?_)));refine RW.nil ⟨by kernel_rfl,aa.mk (h:= ?_)⟩)
    refine ⟨⟨(k+1,v),by show k+1≤_;omega,?_⟩,id,by show out.length - (k+1)<out.length - k;omega,bg.mk (And.intro oo <| And.intro orr <| And.intro oc <| And.intro ou <| And.intro (av.aj x) <| And.intro (av.aD x) <| And.intro (av.aj b) (av.aD b))⟩
    rcases hv with ⟨hv1,hv2⟩ | ⟨k',hv1,hv2,hv3⟩
    ·refine .inl ⟨fun k' j' hk' hj'=> ?_,hv2⟩
     by_cases e:k'=k
     ·subst e;rw [hj] at hj';rw [← Option.some.inj hj'];exact hji
     ·exact hv1 k' j' (by have:k'<k+1:=hk';omega) hj'
    ·exact .inr ⟨k',by show k'<k+1;omega,hv2,hv3⟩
  have h2:decide ((k:Int)<(out.length:Int))=false:=by simp only [decide_eq_false_iff_not];omega
  have hko2:k=out.length:=by omega
  subst hko2
  (refine SW.ai [0,1,2,4,5,6,7,8,9,10,11,12,13,14,15,16,17,18,19,20,35,41,46,61,87,92,109,120,123,129,139,207] mixed ?_;(repeat (first | refine RW.ro (h2) (h:= ?_) | refine RW.skip (h:= ?_) | refine RW.op (h2) (h:= ?_) | refine RW.aF (h2) (h:= ?_) | refine RW.ah (h:= ?_)));refine RW.nil ⟨by kernel_rfl,aa.mk (h:= ?_)⟩)
  refine SW.ak rfl (SW.exit (SW.seq (SW.seq ?_)))
  rcases hv with ⟨hv1,rfl⟩ | ⟨k',hk',hkj,rfl⟩
  ·have hni:i∉R.2:=fun hin=>by
    obtain ⟨k',hk'⟩:=List.mem_iff_getElem?.1 hin
    exact hv1 k' i (by have:=bq hk';omega) hk' rfl
   rw [if_neg hni] at hb htu
   subst hb
   have hxx:∀ y,y∈[x]→lW y:=fun y hy=>by simp at hy;rw [hy];exact Bs
   have c3:=fun k=>kz [x] [x] (by simp) (by simp) hxx hxx k
   have e4:decide ([x]=[x])=true:=by simp
   rw [e4] at c3
   have qv:decide ((-1:Int)<0)=true:=rfl
   (refine SW.ai [0,1,2,4,5,6,7,8,9,10,11,12,13,14,15,16,17,18,19,20,35,41,46,61,87,92,109,120,123,129,139,207] mixed ?_;(repeat (first | refine RW.ro (qv) (h:= ?_) | refine RW.skip (h:= ?_) | refine RW.op (qv) (h:= ?_) | refine RW.aF (qv) (h:= ?_) | refine RW.ah (h:= ?_)));refine RW.nil ⟨by kernel_rfl,aa.mk (h:= ?_)⟩)
   refine SW.au rfl (SW.seq (SW.seq ?_))
   (refine SW.ai [0,1,2,4,5,6,7,8,9,10,11,12,13,14,15,16,17,18,19,20,35,41,46,61,87,92,109,120,123,129,139,207] mixed ?_;(repeat (first | refine RW.ro U (h:= ?_) | refine RW.skip (h:= ?_) | refine RW.op U (h:= ?_) | refine RW.aF U (h:= ?_) | refine RW.ah (h:= ?_) | refine Jd rfl rfl (h:= ?_) | (refine RW.ax (h:= ?_);(first | refine af.mk U (hc:=c3 _) (h:= ?_)))));refine RW.nil ⟨by kernel_rfl,aa.mk (h:= ?_)⟩)
   refine SW.ak rfl (SW.skip (SW.exit ?_))
   refine (?_:Sl.SW _ _ _ _ _ _)
   (refine SW.ai [0,1,2,4,5,6,7,8,9,10,11,12,13,14,15,16,17,18,19,20,35,41,46,61,87,92,109,120,123,129,139,207] mixed ?_;(repeat (first | refine RW.ro (e2) (h:= ?_) | refine RW.skip (h:= ?_) | refine RW.op (e2) (h:= ?_) | refine RW.aF (e2) (h:= ?_) | refine RW.ah (h:= ?_)));refine RW.nil ⟨by kernel_rfl,aa.mk (h:= ?_)⟩)
   exact ⟨⟨i+1,by omega⟩,id,by show l.length - (i+1)<l.length - i;omega,bg.mk (And.intro htu <| And.intro oo <| And.intro orr <| And.intro oc ou)⟩
  ·have hin:i∈R.2:=List.mem_of_getElem? hkj
   rw [if_pos hin] at hb htu
   subst hb
   have hyk:out[k']? =some x.gi:=by
    rw [← hout]
    unfold cI
    rw [List.getElem?_map,uu j_.lt,hkj]
    simp [hx]
   obtain ⟨v,hm⟩:=hA.may i x hin hx
   unfold iW at hm
   simp only [Bool.and_eq_true,decide_eq_true_eq] at hm
   obtain ⟨⟨⟨p1,p2⟩,p3⟩,p4⟩:=hm
   have qv:decide ((k':Int)<0)=false:=by simp only [decide_eq_false_iff_not];omega
   have hxa:=Bs.ap
   have z1:zj o.who []=false:=rfl
   have zs:∀ z:av,bE [.d (.int .u8 0),.d (.int .u32 0),.d (.int .u8 0),.d (.int .u32 0),.d (.int .u32 0),.d (.int .u32 0),.d (.int .u32 0),.d .ay] 0 z.sv=z.sv:=fun z=>rfl
   (refine SW.ai [0,1,2,4,5,6,7,8,9,10,11,12,13,14,15,16,17,18,19,20,35,41,46,61,87,92,109,120,123,129,139,207] mixed ?_;(repeat (first | refine RW.ro (qv) (h:= ?_) | refine RW.skip (h:= ?_) | refine RW.op (qv) (h:= ?_) | refine RW.aF (qv) (h:= ?_) | refine RW.ah (h:= ?_)));refine RW.nil ⟨by kernel_rfl,aa.mk (h:= ?_)⟩)
   refine SW.ak rfl (SW.skip (SW.seq ?_))
   (have fx:=(And.intro (vn hyk) (And.intro (um hyk) (And.intro (hk') (And.intro (zs) (And.intro (x.gi.yx) (x.gi.jZ))))));refine SW.ai [0,1,2,4,5,6,7,8,9,10,11,12,13,14,15,16,17,18,19,20,35,41,46,61,87,92,109,120,123,129,139,207] mixed ?_;(repeat (first | refine RW.ro fx (h:= ?_) | refine RW.skip (h:= ?_) | refine RW.op fx (h:= ?_) | refine RW.aF fx (h:= ?_) | refine RW.ah (h:= ?_)));refine RW.nil ⟨by kernel_rfl,aa.mk (h:= ?_)⟩)
   refine SW.seq ?_
   (refine SW.ai [0,1,2,4,5,6,7,8,9,10,11,12,13,14,15,16,17,18,19,20,35,41,46,61,87,92,109,120,123,129,139,207] mixed ?_;(repeat (first | refine RW.ro U (h:= ?_) | refine RW.skip (h:= ?_) | refine RW.op U (h:= ?_) | refine RW.aF U (h:= ?_) | refine RW.ah (h:= ?_)));refine RW.nil ⟨by kernel_rfl,aa.mk (h:= ?_)⟩)
   refine SW.seq (SW.seq ?_)
   (refine SW.ai [0,1,2,4,5,6,7,8,9,10,11,12,13,14,15,16,17,18,19,20,35,41,46,61,87,92,109,120,123,129,139,207] mixed ?_;(repeat (first | refine RW.ro U (h:= ?_) | refine RW.skip (h:= ?_) | refine RW.op U (h:= ?_) | refine RW.aF U (h:= ?_) | refine RW.ah (h:= ?_)));refine RW.nil ⟨by kernel_rfl,aa.mk (h:= ?_)⟩)
   refine SW.block ?_
   have okS:=And.intro oo <| And.intro orr <| And.intro oc <| And.intro ou <| And.intro (av.aj x) <| And.intro (av.aD x) <| And.intro (av.aj x.gi) <| And.intro (av.aD x.gi) <| And.intro (av.HV x.gi) (av.Gx x.gi)
   refine SW.c8 (α:={k:Nat // k≤x.ap.length}) (fun k=>⟨[(20,i64 k.1),(19,bl (zj o.who (x.ap.take k.1))),(18,.ptr 6 0),(14,.ptr 4 0),(15,.ptr 5 0),(13,i64 i),(12,.d (.int .u64 ((tu l R.2 i:Nat):Int))),(10,.ptr 3 0),(9,.ptr 2 0),(4,.ptr 0 0),(5,.ptr 1 0)],(6,.box 60 x.gi.sv)::[(5,.box 58 x.gi.cells),(4,.box 58 x.cells),(3,.box 26 [dD R.1,cF X]),(2,.box 45 (aG dd cc ww (fC out) T)),(1,.box 35 o.cells),(0,.box 26 [dD l,cF s])],7⟩) (fun k=>x.ap.length - k.1) ⟨0,Nat.zero_le _⟩ id (And.intro z1 okS) (round:= ?_)
   rintro ⟨k,hk⟩
   dsimp only
   refine SW.seq (SW.seq ?_)
   by_cases hka:k<x.ap.length
   ·have h3:decide ((k:Int)<(x.ap.length:Int))=true:=by simp only [decide_eq_true_eq];omega
    have e3:IntKind.i64.wrap ((k:Int)+1)=((k+1:Nat):Int):=wrap_i64 _ (by omega)
    obtain ⟨n,hn⟩:=aL hka
    have jJ:zj o.who (x.ap.take (k+1))=(zj o.who (x.ap.take k) || decide (n≠o.who)):=by
     unfold zj
     rw [bQ hn,List.any_append];simp
    have nb:((n:Int) != (o.who:Int))=decide (n≠o.who):=by rw [Bool.eq_iff_iff];simp;omega
    obtain ⟨B,hB⟩:∃ B,zj o.who (x.ap.take k)=B:=⟨_,rfl⟩
    obtain ⟨E,hE⟩:∃ E,decide (n≠o.who)=E:=⟨_,rfl⟩
    rw [hE] at nb
    rw [hB,hE] at jJ
    rw [hB]
    (refine SW.ai [0,1,2,4,5,6,7,8,9,10,11,12,13,14,15,16,17,18,19,20,35,41,46,61,87,92,109,120,123,129,139,207] mixed ?_;(repeat (first | refine RW.ro (h3) (h:= ?_) | refine RW.skip (h:= ?_) | refine RW.op (h3) (h:= ?_) | refine RW.aF (h3) (h:= ?_) | refine RW.ah (h:= ?_)));refine RW.nil ⟨by kernel_rfl,aa.mk (h:= ?_)⟩)
    refine SW.au rfl (SW.skip (SW.seq (SW.block ?_)))
    cases B
    ·rw [Bool.false_or] at jJ
     (have fx:=(And.intro (eU hn) (And.intro (hka) (nb)));refine SW.ai [0,1,2,4,5,6,7,8,9,10,11,12,13,14,15,16,17,18,19,20,35,41,46,61,87,92,109,120,123,129,139,207] mixed ?_;(repeat (first | refine RW.ro fx (h:= ?_) | refine RW.skip (h:= ?_) | refine RW.op fx (h:= ?_) | refine RW.aF fx (h:= ?_) | refine RW.ah (h:= ?_)));refine RW.nil ⟨by kernel_rfl,aa.mk (h:= ?_)⟩)
     (refine SW.ai [0,1,2,4,5,6,7,8,9,10,11,12,13,14,15,16,17,18,19,20,35,41,46,61,87,92,109,120,123,129,139,207] mixed ?_;(repeat (first | refine RW.ro (e3) (h:= ?_) | refine RW.skip (h:= ?_) | refine RW.op (e3) (h:= ?_) | refine RW.aF (e3) (h:= ?_) | refine RW.ah (h:= ?_)));refine RW.nil ⟨by kernel_rfl,aa.mk (h:= ?_)⟩)
     exact ⟨⟨k+1,by omega⟩,id,by show x.ap.length - (k+1)<x.ap.length - k;omega,bg.mk (And.intro jJ okS)⟩
    ·rw [Bool.true_or] at jJ
     (have fx:=(And.intro (eU hn) (And.intro (hka) (nb)));refine SW.ai [0,1,2,4,5,6,7,8,9,10,11,12,13,14,15,16,17,18,19,20,35,41,46,61,87,92,109,120,123,129,139,207] mixed ?_;(repeat (first | refine RW.ro fx (h:= ?_) | refine RW.skip (h:= ?_) | refine RW.op fx (h:= ?_) | refine RW.aF fx (h:= ?_) | refine RW.ah (h:= ?_)));refine RW.nil ⟨by kernel_rfl,aa.mk (h:= ?_)⟩)
     (refine SW.ai [0,1,2,4,5,6,7,8,9,10,11,12,13,14,15,16,17,18,19,20,35,41,46,61,87,92,109,120,123,129,139,207] mixed ?_;(repeat (first | refine RW.ro (e3) (h:= ?_) | refine RW.skip (h:= ?_) | refine RW.op (e3) (h:= ?_) | refine RW.aF (e3) (h:= ?_) | refine RW.ah (h:= ?_)));refine RW.nil ⟨by kernel_rfl,aa.mk (h:= ?_)⟩)
     exact ⟨⟨k+1,by omega⟩,id,by show x.ap.length - (k+1)<x.ap.length - k;omega,bg.mk (And.intro jJ okS)⟩
   have h3:decide ((k:Int)<(x.ap.length:Int))=false:=by simp only [decide_eq_false_iff_not];omega
   have hke:k=x.ap.length:=by omega
   subst hke
   have p5:zj o.who x.ap=true:=p4
   rw [List.take_length,p5]
   (refine SW.ai [0,1,2,4,5,6,7,8,9,10,11,12,13,14,15,16,17,18,19,20,35,41,46,61,87,92,109,120,123,129,139,207] mixed ?_;(repeat (first | refine RW.ro (h3) (h:= ?_) | refine RW.skip (h:= ?_) | refine RW.op (h3) (h:= ?_) | refine RW.aF (h3) (h:= ?_) | refine RW.ah (h:= ?_)));refine RW.nil ⟨by kernel_rfl,aa.mk (h:= ?_)⟩)
   refine SW.ak rfl (SW.exit (SW.seq (SW.seq ?_)))
   have qs:((x.st:Int) != 0)=false:=by rw [p1];rfl
   have qt:((x.gi.st:Int) != 2)=false:=rfl
   have qr:decide ((x.re.length:Int)>0)=false:=by rw [p3];rfl
   have b0:∀ z:Int,(z != z)=false:=fun z=>bne_self_eq_false z
   have dv:decide (x.gi.iU=x.iU)=true:=by simp [av.gi]
   have m1:x.gi.kn=x.kn:=rfl
   have m2:x.gi.cu=x.cu:=rfl
   have m3:x.gi.item=x.item:=rfl
   have m4:x.gi.ap=x.ap:=rfl
   (have fx:=(And.intro (qs) (And.intro (qt) (And.intro (qr) (And.intro (b0) (And.intro (dv) (And.intro (m1) (And.intro (m2) (And.intro (m3) (m4)))))))));refine SW.ai [0,1,2,4,5,6,7,8,9,10,11,12,13,14,15,16,17,18,19,20,35,41,46,61,87,92,109,120,123,129,139,207] mixed ?_;(repeat (first | refine RW.ro fx (h:= ?_) | refine RW.skip (h:= ?_) | refine RW.op fx (h:= ?_) | refine RW.aF fx (h:= ?_) | refine RW.ah (h:= ?_)));refine RW.nil ⟨by kernel_rfl,aa.mk (h:= ?_)⟩)
   refine SW.ak rfl (SW.skip ?_)
   have e5:=uF x.kn x.cu
   obtain ⟨cst,hcst⟩:∃ cst,x.kn*x.cu % 18446744073709551616=cst:=⟨_,rfl⟩
   have e6:=zP (tu l R.2 i) (x.kn*x.cu)
   rw [hcst,← Int.natCast_add,← htu] at e6
   rw [hcst] at e5
   (refine SW.ai [0,1,2,4,5,6,7,8,9,10,11,12,13,14,15,16,17,18,19,20,35,41,46,61,87,92,109,120,123,129,139,207] mixed ?_;(repeat (first | refine RW.ro (And.intro (e5) (e6)) (h:= ?_) | refine RW.skip (h:= ?_) | refine RW.op (And.intro (e5) (e6)) (h:= ?_) | refine RW.aF (And.intro (e5) (e6)) (h:= ?_) | refine RW.ah (h:= ?_)));refine RW.nil ⟨by kernel_rfl,aa.mk (h:= ?_)⟩)
   (refine SW.ai [0,1,2,4,5,6,7,8,9,10,11,12,13,14,15,16,17,18,19,20,35,41,46,61,87,92,109,120,123,129,139,207] mixed ?_;(repeat (first | refine RW.ro (e2) (h:= ?_) | refine RW.skip (h:= ?_) | refine RW.op (e2) (h:= ?_) | refine RW.aF (e2) (h:= ?_) | refine RW.ah (h:= ?_)));refine RW.nil ⟨by kernel_rfl,aa.mk (h:= ?_)⟩)
   exact ⟨⟨i+1,by omega⟩,id,by show l.length - (i+1)<l.length - i;omega,bg.mk (And.intro oo <| And.intro orr <| And.intro oc ou)⟩
 have h1:decide ((i:Int)<(l.length:Int))=false:=by simp only [decide_eq_false_iff_not];omega
 have hie:i=l.length:=by omega
 subst hie
 have htt:=hA.tot
 rw [htt]
 have wT:((T:Int) == (T:Int))=true:=by simp
 (refine SW.ai [0,1,2,4,5,6,7,8,9,10,11,12,13,14,15,16,17,18,19,20,35,41,46,61,87,92,109,120,123,129,139,207] mixed ?_;(repeat (first | refine RW.ro (h1) (h:= ?_) | refine RW.skip (h:= ?_) | refine RW.op (h1) (h:= ?_) | refine RW.aF (h1) (h:= ?_) | refine RW.ah (h:= ?_)));refine RW.nil ⟨by kernel_rfl,aa.mk (h:= ?_)⟩)
 refine SW.ak rfl (SW.exit (SW.seq ?_))
 (refine SW.ai [0,1,2,4,5,6,7,8,9,10,11,12,13,14,15,16,17,18,19,20,35,41,46,61,87,92,109,120,123,129,139,207] mixed ?_;(repeat (first | refine RW.ro (wT) (h:= ?_) | refine RW.skip (h:= ?_) | refine RW.op (wT) (h:= ?_) | refine RW.aF (wT) (h:= ?_) | refine RW.ah (h:= ?_) | (refine RW.ax (h:= ?_);(first | refine af.mk (wT) (hc:=bk _) (h:= ?_)))));refine RW.nil ⟨by kernel_rfl,aa.mk (h:= ?_)⟩)
 refine SW.ret ?_
 exact End.mk [] (h4:=rfl)
end
end Go.Proofs.Ytefjaphfnkbbkaa
