/-
 Submits: claims the other way round, plainly; an operation whose claims grow.
-/
import Derived.Test.YtefjaphfnkbbkaaUR
set_option linter.unusedSectionVars false
set_option linter.unusedVariables false
set_option linter.unusedSimpArgs false
namespace Go.Proofs.Ytefjaphfnkbbkaa
open Go.Sl Go.Proofs Go.RowKit
section
theorem Tn.Ix {l:List aq}{a:MM Dt Cr}{ca:Nat}{m:MM Dt aq}{cm:Nat}(h:Tn l a ca m cm)(hl:l.length<1000000000):
  bp Try.prog tree_New.f [ops l] [] 3 7 (.ptr 5 0) [(5,.box 71 [.mp 3,.mp 4]),(3,.map (aH Dt.cells cv a) ca),(4,.map (aH Dt.cells ov m) cm)]:=by
 have e:cU l 3=⟨5,3,4,a,ca,m,cm⟩:=by
  have h0:=h.new
  unfold cU Tr.sh at h0 ⊢
  injection h0 with h1 h2 h3 h4 h5 h6 h7
  rw [h4,h5,h6,h7]
  congr 1
  ·omega
  ·omega
  ·omega
 have:=yZ l hl 3
 rw [e] at this
 exact this
theorem Ac {l:List av}{i:Nat}{x:av}(h:l[i]? =some x):List.take 2 (List.drop (i*8) (List.map SV.d (l.flatMap av.sy)))=x.dot.cells:=by
 have h1:List.take 2 (List.drop (i*8) (List.map SV.d (l.flatMap av.sy)))=(List.take 8 (List.drop (i*8) (List.map SV.d (l.flatMap av.sy)))).take 2:=by rw [List.take_take];rfl
 rw [h1,vn h,av.oV]
theorem Ad {l:List av}{i:Nat}{x:av}(h:l[i]? =some x):(i*8+2≤(List.map SV.d (l.flatMap av.sy)).length)=True:=eq_true (by
 rw [List.length_map,sB]
 have:=bq h
 omega)
def tC (o:aq)(x:SV):List SV:=o.cells.take 28++[x]
section
variable (o:aq) (x y:SV)
theorem tC.of:bE o.cells 28 [x]=tC o x:=rfl
theorem tC.get:(tC o x)[28]? =some x:=rfl
theorem tC.set:bE (tC o x) 28 [y]=tC o y:=rfl
theorem tC.len:(tC o x).length=29:=rfl
theorem Ae (q:Nat→Bool):∀ (a b:List SV),SV.aI q (a++b)=(SV.aI q a && SV.aI q b)
 | [],b=>by simp [SV.aI]
 | c::a,b=>by simp only [List.cons_append,SV.aI,Ae q a b,Bool.and_assoc]
theorem xR (ρ:Nat→Nat):∀ (a b:List SV),SV.bh ρ (a++b)=SV.bh ρ a++SV.bh ρ b
 | [],b=>by simp [SV.bh]
 | c::a,b=>by simp only [List.cons_append,SV.bh,xR ρ a b]
theorem xS (n len:Nat)(ds:List DV):∀ (a b:List SV),SV.gV n len ds (a++b)=SV.gV n len ds a++SV.gV n len ds b
 | [],b=>by simp [SV.gV]
 | c::a,b=>by simp only [List.cons_append,SV.gV,xS n len ds a b]
theorem tC.aI (q:Nat→Bool)(n k:Nat):SV.aI q (tC o (.gs n k))=q n:=by
 unfold tC
 rw [Ae,show o.cells.take 28=(o.ds.take 28).map SV.d from rfl,SV.bt]
 simp [SV.aI,SV.ok]
theorem tC.bh (ρ:Nat→Nat)(n k:Nat):SV.bh ρ (tC o (.gs n k))=tC o (.gs (ρ n) k):=by
 unfold tC
 rw [xR,show o.cells.take 28=(o.ds.take 28).map SV.d from rfl,SV.fI]
 simp [SV.bh,SV.aV]
theorem tC.gu (n k:Nat)(ds:List DV):SV.gV n k ds (tC o (.gs n k))=tC o (.d (.sl k ds)):=by
 unfold tC
 rw [xS,show o.cells.take 28=(o.ds.take 28).map SV.d from rfl,SV.gZ (q:=fun _=>false) rfl _ (SV.bt _)]
 simp [SV.gV,SV.gu]
end
def oT (o:aq):aq:={ o with lines:= .sl o.cl.length (o.cl.reverse.flatMap Cm.ds)}
theorem DB {o:aq}(h:o.qW):(oT o).qW∧(oT o).cl=o.cl.reverse:=by
 have:=aq.qW.of (o:=oT o) (l:=o.cl.reverse) (by show DV.sl o.cl.length _=_;rw [List.length_reverse]) (by rw [List.length_reverse];exact h.le)
 exact this
section
variable {a:MM Dt Cr} {l:List av} {s:List Sp} {o:aq} {D:List Dt}
theorem pF (is:List Nat):cI l is.reverse=(cI l is).reverse:=by unfold cI;rw [tN,List.map_reverse]
theorem DC (ho:o.qW)(hn:(o.cl.map (·.line)).Nodup):bB (ej l) (oT o).who (l,[]) (oT o).cl=((bB (ej l) o.who (l,[]) o.cl).1,(bB (ej l) o.who (l,[]) o.cl).2.reverse):=by
 rw [(DB ho).2]
 have:=vo l o.who o.cl hn
 exact Prod.ext this.2 this.1
theorem tB (is:List Nat):gj (cI l is.reverse)=gj (cI l is):=by
 rw [pF]
 exact uq (List.reverse_perm _)
theorem DD (ho:o.qW)(hn:(o.cl.map (·.line)).Nodup):
  (∃ e:Nat,e≠1∧fD a l s o D= .cg [.agg dP,.agg [dD l,cF s],.d (.int .u8 (e:Int))]∧fD a l s (oT o) D= .cg [.agg dP,.agg [dD l,cF s],.d (.int .u8 (e:Int))])∨
  ∃ R T,tA a l s o D R T∧tA a l s (oT o) D (R.1,R.2.reverse) T:=by
 have ht:=DC (l:=l) ho hn
 have hk:(oT o).kind=o.kind:=rfl
 have hc:(oT o).aQ=o.aQ:=rfl
 by_cases h1:MM.has a o.aQ=true∧o.kind=8
 ·have h1':MM.has a (oT o).aQ=true∧(oT o).kind=8:=h1
  by_cases h2:(bB (ej l) o.who (l,[]) o.cl).2=[]
  ·refine .inl ⟨4,by decide,by unfold fD;rw [if_pos h1,if_pos h2];rfl,?_⟩
   unfold fD
   rw [if_pos h1',ht,if_pos (by rw [h2];rfl)];rfl
  ·have h2': ¬ (bB (ej l) o.who (l,[]) o.cl).2.reverse=[]:=fun e=>h2 (List.reverse_eq_nil_iff.1 e)
   by_cases h3:cE (bM a s) (gj (cI l (bB (ej l) o.who (l,[]) o.cl).2)) D=0
   ·obtain ⟨d1,d2⟩:=vS h3
    refine .inr ⟨_,_,⟨rfl,rfl,h1.1,h1.2,h2,d1,d2,by unfold fD;rw [if_pos h1,if_neg h2,if_pos h3,rB d1 d2]⟩,⟨ht,tB _,h1'.1,h1'.2,h2',d1,d2,?_⟩⟩
    unfold fD
    rw [if_pos h1',ht]
    dsimp only
    rw [if_neg h2',tB,if_pos h3,rB d1 d2]
   ·refine .inl ⟨3,by decide,by unfold fD;rw [if_pos h1,if_neg h2,if_neg h3];rfl,?_⟩
    unfold fD
    rw [if_pos h1',ht]
    dsimp only
    rw [if_neg h2',tB,if_neg h3];rfl
 ·exact .inl ⟨0,by decide,by unfold fD;rw [if_neg h1];rfl,by unfold fD;rw [if_neg (show ¬ (MM.has a (oT o).aQ=true∧(oT o).kind=8) from h1)];rfl⟩
end
end
section
attribute [local irreducible] SW RW bp SC af aa
theorem Af {l:List Cm}{i:Nat}{x:Cm}(h:l[i]? =some x):List.take 2 (List.drop (i*4) (List.map SV.d (l.flatMap Cm.ds)))=x.line.cells:=by
 have h1:List.take 2 (List.drop (i*4) (List.map SV.d (l.flatMap Cm.ds)))=(List.take 4 (List.drop (i*4) (List.map SV.d (l.flatMap Cm.ds)))).take 2:=by rw [List.take_take];rfl
 rw [h1,vE h,Cm.yR]
theorem pG {l:List Cm}{i:Nat}{x:Cm}(h:l[i]? =some x):(i*4+2≤(List.map SV.d (l.flatMap Cm.ds)).length)=True:=eq_true (by
 rw [List.length_map,zD]
 have:=bq h
 omega)
theorem Fc (c:Cm):dF c.sv=some c.ds:=rfl
theorem Iy (c:Cm):(List.map SV.d c.ds).length=4:=rfl
def Uq (cl:List Cm)(j:Nat):Prop:=∀ (p q:Nat) (c x:Cm),cl.length - j≤p→q<p→cl[p]? =some c→cl[q]? =some x→x.line≠c.line
theorem Uq.nd {cl:List Cm}(h:Uq cl cl.length):(cl.map (·.line)).Nodup:=by
 rw [List.nodup_iff_pairwise_ne,List.pairwise_iff_getElem]
 intro i j hi hj hij
 rw [List.length_map] at hi hj
 rw [List.getElem_map,List.getElem_map]
 exact h j i cl[j] cl[i] (by omega) hij (List.getElem?_eq_getElem hj) (List.getElem?_eq_getElem hi)
set_option maxRecDepth 100000 in
set_option maxHeartbeats 16000000 in
theorem vT (l0:List aq)(hr:∀ o,o∈l0→o.bn<256)(hwf:∀ o,o∈l0→o.dot.wf)(hw:∀ o,o∈l0→AF o)(hlen:l0.length≤9223372036854775807)
  (l:List av) (hl:l.length<4611686018427387904) (s:List Sp) (hs:s.length≤9223372036854775807) (jJ:∀ y,y∈s→y.n<18446744073709551616) (hsw:∀ y,y∈s→y.d.wf) (o:aq) (ho:o.qW):
  SB Try.prog law23_ClaimTurned.f [ops l0,.agg [dD l,cF s],.agg o.cells] [] 0 0 (fun r F=>r=bl true):=by
 have oc:∀ q:Nat→Bool,SV.aI q o.cells=true:=aq.aj o
 refine law23_ClaimTurned.enter (by simp [SV.ok,SV.aI,oc]) (by simp [Hp.ok]) (by simp) ?_
 dsimp only [law23_ClaimTurned.s,Co.M,Co.G,Co.J,Co.H,Co.N,Co.F,Co.C,Co.Z,Co.B,Co.b8,Co.aA,Co.bz,Co.i6,Co.z8,Co.dm]
 have hG':=sU l0 hw hlen
 have hQ':=n_ l hl s o ho
 refine SW.seq ?_
 (refine SW.ai [0,1,2,4,5,6,7,8,9,10,11,12,13,14,15,16,17,32,41,56,71,125,130,150] mixed ?_;(repeat (first | refine RW.ro U (h:= ?_) | refine RW.skip (h:= ?_) | refine RW.op U (h:= ?_) | refine RW.aF U (h:= ?_) | refine RW.ah (h:= ?_)));refine RW.nil ⟨by kernel_rfl,aa.mk (h:= ?_)⟩)
 refine SW.seq (SW.seq ?_)
 rcases hG:iB l0 with _ | _ <;> rw [hG] at hG'
 rotate_left
 ·
  (refine SW.ai [0,1,2,4,5,6,7,8,9,10,11,12,13,14,15,16,17,32,41,56,71,125,130,150] mixed ?_;(repeat (first | refine RW.ro U (h:= ?_) | refine RW.skip (h:= ?_) | refine RW.op U (h:= ?_) | refine RW.aF U (h:= ?_) | refine RW.ah (h:= ?_) | (refine RW.ax (h:= ?_);(first | refine af.mk U (hc:=hG' _) (h:= ?_) | refine af.mk U (hc:=bk _) (h:= ?_)))));refine RW.nil ⟨by kernel_rfl,aa.mk (h:= ?_)⟩)
  refine SW.au rfl (SW.seq ?_)
  (refine SW.ai [0,1,2,4,5,6,7,8,9,10,11,12,13,14,15,16,17,32,41,56,71,125,130,150] mixed ?_;(repeat (first | refine RW.ro U (h:= ?_) | refine RW.skip (h:= ?_) | refine RW.op U (h:= ?_) | refine RW.aF U (h:= ?_) | refine RW.ah (h:= ?_) | (refine RW.ax (h:= ?_);(first | refine af.mk U (hc:=hG' _) (h:= ?_) | refine af.mk U (hc:=bk _) (h:= ?_)))));refine RW.nil ⟨by kernel_rfl,aa.mk (h:= ?_)⟩)
  refine SW.ret ?_
  exact End.mk [] (h4:=rfl)
 have hl80:=qf hG
 by_cases h50:l0.length≤50
 rotate_left
 ·have g1:decide ((l0.length:Int)>50)=true:=by simp only [decide_eq_true_eq];omega
  (refine SW.ai [0,1,2,4,5,6,7,8,9,10,11,12,13,14,15,16,17,32,41,56,71,125,130,150] mixed ?_;(repeat (first | refine RW.ro (g1) (h:= ?_) | refine RW.skip (h:= ?_) | refine RW.op (g1) (h:= ?_) | refine RW.aF (g1) (h:= ?_) | refine RW.ah (h:= ?_) | (refine RW.ax (h:= ?_);(first | refine af.mk (g1) (hc:=hG' _) (h:= ?_) | refine af.mk (g1) (hc:=bk _) (h:= ?_)))));refine RW.nil ⟨by kernel_rfl,aa.mk (h:= ?_)⟩)
  refine SW.au rfl (SW.seq ?_)
  (refine SW.ai [0,1,2,4,5,6,7,8,9,10,11,12,13,14,15,16,17,32,41,56,71,125,130,150] mixed ?_;(repeat (first | refine RW.ro U (h:= ?_) | refine RW.skip (h:= ?_) | refine RW.op U (h:= ?_) | refine RW.aF U (h:= ?_) | refine RW.ah (h:= ?_) | (refine RW.ax (h:= ?_);(first | refine af.mk U (hc:=hG' _) (h:= ?_) | refine af.mk U (hc:=bk _) (h:= ?_)))));refine RW.nil ⟨by kernel_rfl,aa.mk (h:= ?_)⟩)
  refine SW.ret ?_
  exact End.mk [] (h4:=rfl)
 have g1:decide ((l0.length:Int)>50)=false:=by simp only [decide_eq_false_iff_not];omega
 rcases hQ:Bt l s.length o.cl.length with _ | _ <;> rw [hQ] at hQ'
 rotate_left
 ·
  (refine SW.ai [0,1,2,4,5,6,7,8,9,10,11,12,13,14,15,16,17,32,41,56,71,125,130,150] mixed ?_;(repeat (first | refine RW.ro (g1) (h:= ?_) | refine RW.skip (h:= ?_) | refine RW.op (g1) (h:= ?_) | refine RW.aF (g1) (h:= ?_) | refine RW.ah (h:= ?_) | (refine RW.ax (h:= ?_);(first | refine af.mk (g1) (hc:=hG' _) (h:= ?_) | refine af.mk (g1) (hc:=hQ' _) (h:= ?_) | refine af.mk (g1) (hc:=bk _) (h:= ?_)))));refine RW.nil ⟨by kernel_rfl,aa.mk (h:= ?_)⟩)
  refine SW.au rfl (SW.seq ?_)
  (refine SW.ai [0,1,2,4,5,6,7,8,9,10,11,12,13,14,15,16,17,32,41,56,71,125,130,150] mixed ?_;(repeat (first | refine RW.ro U (h:= ?_) | refine RW.skip (h:= ?_) | refine RW.op U (h:= ?_) | refine RW.aF U (h:= ?_) | refine RW.ah (h:= ?_) | (refine RW.ax (h:= ?_);(first | refine af.mk U (hc:=hG' _) (h:= ?_) | refine af.mk U (hc:=hQ' _) (h:= ?_) | refine af.mk U (hc:=bk _) (h:= ?_)))));refine RW.nil ⟨by kernel_rfl,aa.mk (h:= ?_)⟩)
  refine SW.ret ?_
  exact End.mk [] (h4:=rfl)
 have gb:=yP hQ
 obtain ⟨b1,b2,b3,b4⟩:=gb
 (refine SW.ai [0,1,2,4,5,6,7,8,9,10,11,12,13,14,15,16,17,32,41,56,71,125,130,150] mixed ?_;(repeat (first | refine RW.ro (g1) (h:= ?_) | refine RW.skip (h:= ?_) | refine RW.op (g1) (h:= ?_) | refine RW.aF (g1) (h:= ?_) | refine RW.ah (h:= ?_) | (refine RW.ax (h:= ?_);(first | refine af.mk (g1) (hc:=hG' _) (h:= ?_) | refine af.mk (g1) (hc:=hQ' _) (h:= ?_)))));refine RW.nil ⟨by kernel_rfl,aa.mk (h:= ?_)⟩)
 refine SW.ak rfl (SW.skip (SW.seq ?_))
 have hln:o.cells[28]? =some (.d (.sl o.cl.length (o.cl.flatMap Cm.ds))):=by rw [aq.jY,ho.eq]
 (refine SW.ai [0,1,2,4,5,6,7,8,9,10,11,12,13,14,15,16,17,32,41,56,71,125,130,150] mixed ?_;(repeat (first | refine RW.ro U (h:= ?_) | refine RW.skip (h:= ?_) | refine RW.op U (h:= ?_) | refine RW.aF U (h:= ?_) | refine RW.ah (h:= ?_)));refine RW.nil ⟨by kernel_rfl,aa.mk (h:= ?_)⟩)
 refine SW.seq ?_
 (refine SW.ai [0,1,2,4,5,6,7,8,9,10,11,12,13,14,15,16,17,32,41,56,71,125,130,150] mixed ?_;(repeat (first | refine RW.ro (tC.of o) (h:= ?_) | refine RW.skip (h:= ?_) | refine RW.op (tC.of o) (h:= ?_) | refine RW.aF (tC.of o) (h:= ?_) | refine RW.ah (h:= ?_)));refine RW.nil ⟨by kernel_rfl,aa.mk (h:= ?_)⟩)
 refine SW.qX 2 35 28 62 4 rfl rfl ?_
 refine SW.seq (SW.seq ?_)
 have w0:IntKind.i64.wrap ((o.cl.length:Int) - 1)=(o.cl.length:Int) - 1:=wrap_i64 _ (by omega)
 (refine SW.ai [0,1,2,4,5,6,7,8,9,10,11,12,13,14,15,16,17,32,41,56,71,125,130,150] mixed ?_;(repeat (first | refine RW.ro (And.intro (hln) (w0)) (h:= ?_) | refine RW.skip (h:= ?_) | refine RW.op (And.intro (hln) (w0)) (h:= ?_) | refine RW.aF (And.intro (hln) (w0)) (h:= ?_) | refine RW.ah (h:= ?_)));refine RW.nil ⟨by kernel_rfl,aa.mk (h:= ?_)⟩)
 refine SW.block ?_
 obtain ⟨n,hn⟩:∃ n,o.cl.length=n:=⟨_,rfl⟩
 have t0:(tC o (.d .ay)).set 28 (.gs 3 0)=tC o (.gs 3 0):=rfl
 have u0:Uq o.cl 0:=fun p q c x h1 h2 h3 h4=>absurd (bq h3) (by omega)
 have to:∀ (q:Nat→Bool) (k j:Nat),SV.aI q (tC o (.gs k j))=q k:=fun q k j=>tC.aI o q k j
 have tr:∀ (ρ:Nat→Nat) (k j:Nat),SV.bh ρ (tC o (.gs k j))=tC o (.gs (ρ k) j):=fun ρ k j=>tC.bh o ρ k j
 refine SW.c8 (α:={p:Int×Nat // p.1=(o.cl.length:Int) - 1 - p.2∧p.2≤o.cl.length∧Uq o.cl p.2}) (fun p=>⟨[(8,i64 p.1.1),(7,.ptr 2 0),(5,.ptr 1 0),(4,.ptr 0 0),(0,ops l0)],[(3,.arr 62 4 p.1.2 (List.map SV.d ((o.cl.reverse.take p.1.2).flatMap Cm.ds))),(2,.box 35 (tC o (.gs 3 p.1.2))),(1,.box 35 o.cells),(0,.box 26 [dD l,cF s])],4⟩) (fun p=>o.cl.length - p.1.2) ⟨((o.cl.length:Int) - 1,0),by simp,Nat.zero_le _,u0⟩ id (And.intro t0 <| And.intro to <| And.intro tr <| And.intro (aq.aj o) (aq.aD o)) (round:= ?_)
 rintro ⟨⟨i,j⟩,hi,hj,hu⟩
 dsimp only at hi hj hu ⊢
 refine SW.seq (SW.seq ?_)
 by_cases hge:i≥0
 ·obtain ⟨p,rfl⟩:∃ p:Nat,i=(p:Int):=⟨i.toNat,by omega⟩
  have hp:p+1+j=o.cl.length:=by omega
  have h1:decide ((p:Int)≥0)=true:=by simp only [decide_eq_true_eq];omega
  have w1:IntKind.i64.wrap ((p:Int) - 1)=(p:Int) - 1:=wrap_i64 _ (by omega)
  obtain ⟨c,hc⟩:=aL (show p<o.cl.length by omega)
  have hcr:o.cl.reverse[j]? =some c:=by
   rw [List.getElem?_reverse (by omega),show o.cl.length - 1 - j=p by omega];exact hc
  have htk:o.cl.reverse.take (j+1)=o.cl.reverse.take j++[c]:=bQ hcr
  have hml:List.map SV.d ((o.cl.reverse.take (j+1)).flatMap Cm.ds)=List.map SV.d ((o.cl.reverse.take j).flatMap Cm.ds)++List.map SV.d c.ds:=by
   rw [htk,List.flatMap_append,List.map_append];simp
  have hpl:p<o.cl.length:=by omega
  (refine SW.ai [0,1,2,4,5,6,7,8,9,10,11,12,13,14,15,16,17,32,41,56,71,125,130,150] mixed ?_;(repeat (first | refine RW.ro (h1) (h:= ?_) | refine RW.skip (h:= ?_) | refine RW.op (h1) (h:= ?_) | refine RW.aF (h1) (h:= ?_) | refine RW.ah (h:= ?_)));refine RW.nil ⟨by kernel_rfl,aa.mk (h:= ?_)⟩)
  refine SW.au rfl (SW.skip (SW.seq (SW.block (SW.seq ?_))))
  (have fx:=(And.intro (hln) (And.intro (vE hc) (And.intro (zQ hc) (And.intro (hpl) (And.intro (c.FA) (And.intro (c.qA) (And.intro (c.FB) (And.intro (c.FC) (And.intro (Fc) (And.intro (tC.get) (And.intro (tC.set) (And.intro (tC.len) (And.intro (Iy) (hml.symm))))))))))))));refine SW.ai [0,1,2,4,5,6,7,8,9,10,11,12,13,14,15,16,17,32,41,56,71,125,130,150] mixed ?_;(repeat (first | refine RW.ro fx (h:= ?_) | refine RW.skip (h:= ?_) | refine RW.op fx (h:= ?_) | refine RW.aF fx (h:= ?_) | refine RW.ah (h:= ?_)));refine RW.nil ⟨by kernel_rfl,aa.mk (h:= ?_)⟩)
  refine SW.weak (fun n=>if n=3 then 4 else n) (st1:=⟨[(8,i64 p),(7,.ptr 2 0),(5,.ptr 1 0),(4,.ptr 0 0),(0,ops l0)],[(3,.arr 62 4 (j+1) (List.map SV.d ((o.cl.reverse.take (j+1)).flatMap Cm.ds))),(2,.box 35 (tC o (.gs 3 (j+1)))),(1,.box 35 o.cells),(0,.box 26 [dD l,cF s])],4⟩) (bg.mk (And.intro to <| And.intro tr <| And.intro (aq.aj o) (aq.aD o))) ?_
  refine SW.seq ?_
  (refine SW.ai [0,1,2,4,5,6,7,8,9,10,11,12,13,14,15,16,17,32,41,56,71,125,130,150] mixed ?_;(repeat (first | refine RW.ro U (h:= ?_) | refine RW.skip (h:= ?_) | refine RW.op U (h:= ?_) | refine RW.aF U (h:= ?_) | refine RW.ah (h:= ?_)));refine RW.nil ⟨by kernel_rfl,aa.mk (h:= ?_)⟩)
  refine SW.block ?_
  refine SW.c8 (α:={q:Nat // q≤p∧∀ q' x,q'<q→o.cl[q']? =some x→x.line≠c.line}) (fun q=>⟨[(9,i64 q.1),(8,i64 p),(7,.ptr 2 0),(5,.ptr 1 0),(4,.ptr 0 0),(0,ops l0)],[(3,.arr 62 4 (j+1) (List.map SV.d ((o.cl.reverse.take (j+1)).flatMap Cm.ds))),(2,.box 35 (tC o (.gs 3 (j+1)))),(1,.box 35 o.cells),(0,.box 26 [dD l,cF s])],4⟩) (fun q=>p - q.1) ⟨0,by omega,by omega⟩ id (And.intro to <| And.intro tr <| And.intro (aq.aj o) (aq.aD o)) (round:= ?_)
  rintro ⟨q,hq,hqs⟩
  dsimp only
  refine SW.seq (SW.seq ?_)
  by_cases GB:q<p
  ·have h2:decide ((q:Int)<(p:Int))=true:=by simp only [decide_eq_true_eq];omega
   have e3:IntKind.i64.wrap ((q:Int)+1)=((q+1:Nat):Int):=wrap_i64 _ (by omega)
   obtain ⟨x,hx⟩:=aL (show q<o.cl.length by omega)
   have hql:q<o.cl.length:=by omega
   (refine SW.ai [0,1,2,4,5,6,7,8,9,10,11,12,13,14,15,16,17,32,41,56,71,125,130,150] mixed ?_;(repeat (first | refine RW.ro (h2) (h:= ?_) | refine RW.skip (h:= ?_) | refine RW.op (h2) (h:= ?_) | refine RW.aF (h2) (h:= ?_) | refine RW.ah (h:= ?_)));refine RW.nil ⟨by kernel_rfl,aa.mk (h:= ?_)⟩)
   refine SW.au rfl (SW.skip (SW.seq (SW.block (SW.seq ?_))))
   by_cases he:x.line=c.line
   ·have q1:decide (x.line=c.line)=true:=by simp [he]
    (have fx:=(And.intro (hln) (And.intro (Af hc) (And.intro (pG hc) (And.intro (Af hx) (And.intro (pG hx) (And.intro (hpl) (And.intro (hql) (q1))))))));refine SW.ai [0,1,2,4,5,6,7,8,9,10,11,12,13,14,15,16,17,32,41,56,71,125,130,150] mixed ?_;(repeat (first | refine RW.ro fx (h:= ?_) | refine RW.skip (h:= ?_) | refine RW.op fx (h:= ?_) | refine RW.aF fx (h:= ?_) | refine RW.ah (h:= ?_)));refine RW.nil ⟨by kernel_rfl,aa.mk (h:= ?_)⟩)
    refine SW.au rfl (SW.seq ?_)
    (refine SW.ai [0,1,2,4,5,6,7,8,9,10,11,12,13,14,15,16,17,32,41,56,71,125,130,150] mixed ?_;(repeat (first | refine RW.ro U (h:= ?_) | refine RW.skip (h:= ?_) | refine RW.op U (h:= ?_) | refine RW.aF U (h:= ?_) | refine RW.ah (h:= ?_) | (refine RW.ax (h:= ?_);(first | refine af.mk U (hc:=bk _) (h:= ?_)))));refine RW.nil ⟨by kernel_rfl,aa.mk (h:= ?_)⟩)
    refine SW.ret ?_
    exact End.mk [] (h4:=rfl)
   ·have q1:decide (x.line=c.line)=false:=by simp [he]
    (have fx:=(And.intro (hln) (And.intro (Af hc) (And.intro (pG hc) (And.intro (Af hx) (And.intro (pG hx) (And.intro (hpl) (And.intro (hql) (q1))))))));refine SW.ai [0,1,2,4,5,6,7,8,9,10,11,12,13,14,15,16,17,32,41,56,71,125,130,150] mixed ?_;(repeat (first | refine RW.ro fx (h:= ?_) | refine RW.skip (h:= ?_) | refine RW.op fx (h:= ?_) | refine RW.aF fx (h:= ?_) | refine RW.ah (h:= ?_)));refine RW.nil ⟨by kernel_rfl,aa.mk (h:= ?_)⟩)
    refine SW.ak rfl (SW.skip ?_)
    (refine SW.ai [0,1,2,4,5,6,7,8,9,10,11,12,13,14,15,16,17,32,41,56,71,125,130,150] mixed ?_;(repeat (first | refine RW.ro (e3) (h:= ?_) | refine RW.skip (h:= ?_) | refine RW.op (e3) (h:= ?_) | refine RW.aF (e3) (h:= ?_) | refine RW.ah (h:= ?_)));refine RW.nil ⟨by kernel_rfl,aa.mk (h:= ?_)⟩)
    refine ⟨⟨q+1,by omega,fun q' y hq' hy=> ?_⟩,id,by show p - (q+1)<p - q;omega,bg.mk (And.intro to <| And.intro tr <| And.intro (aq.aj o) (aq.aD o))⟩
    by_cases hqk:q'=q
    ·subst hqk;rw [hx] at hy;rw [← Option.some.inj hy];exact he
    ·exact hqs q' y (by omega) hy
  ·have h2:decide ((q:Int)<(p:Int))=false:=by simp only [decide_eq_false_iff_not];omega
   have hqe:q=p:=by omega
   subst hqe
   (refine SW.ai [0,1,2,4,5,6,7,8,9,10,11,12,13,14,15,16,17,32,41,56,71,125,130,150] mixed ?_;(repeat (first | refine RW.ro (h2) (h:= ?_) | refine RW.skip (h:= ?_) | refine RW.op (h2) (h:= ?_) | refine RW.aF (h2) (h:= ?_) | refine RW.ah (h:= ?_)));refine RW.nil ⟨by kernel_rfl,aa.mk (h:= ?_)⟩)
   refine SW.ak rfl (SW.exit ?_)
   refine (?_:Sl.SW _ _ _ _ _ _)
   (refine SW.ai [0,1,2,4,5,6,7,8,9,10,11,12,13,14,15,16,17,32,41,56,71,125,130,150] mixed ?_;(repeat (first | refine RW.ro (w1) (h:= ?_) | refine RW.skip (h:= ?_) | refine RW.op (w1) (h:= ?_) | refine RW.aF (w1) (h:= ?_) | refine RW.ah (h:= ?_)));refine RW.nil ⟨by kernel_rfl,aa.mk (h:= ?_)⟩)
   refine ⟨⟨((q:Int) - 1,j+1),by show (q:Int) - 1=(o.cl.length:Int) - 1 - ((j+1:Nat):Int);omega,by show j+1≤_;omega,fun p' q' c' x k1 k2 k3 k4=> ?_⟩,id,by show o.cl.length - (j+1)<o.cl.length - j;omega,bg.mk (And.intro to <| And.intro tr <| And.intro (aq.aj o) (aq.aD o))⟩
   have k1':o.cl.length - (j+1)≤p':=k1
   by_cases hpk:p'=q
   ·subst hpk;rw [hc] at k3;rw [← Option.some.inj k3];exact hqs q' x k2 k4
   ·exact hu p' q' c' x (by omega) k2 k3 k4
 have hje:j=o.cl.length:=by omega
 have h1:decide (i≥0)=false:=by simp only [decide_eq_false_iff_not];omega
 rw [hje] at hu ⊢
 have hnd:=hu.nd
 have htl:o.cl.reverse.take o.cl.length=o.cl.reverse:=List.take_of_length_le (by rw [List.length_reverse];exact Nat.le_refl _)
 rw [htl]
 (refine SW.ai [0,1,2,4,5,6,7,8,9,10,11,12,13,14,15,16,17,32,41,56,71,125,130,150] mixed ?_;(repeat (first | refine RW.ro (h1) (h:= ?_) | refine RW.skip (h:= ?_) | refine RW.op (h1) (h:= ?_) | refine RW.aF (h1) (h:= ?_) | refine RW.ah (h:= ?_)));refine RW.nil ⟨by kernel_rfl,aa.mk (h:= ?_)⟩)
 refine SW.ak rfl (SW.exit ?_)
 have eC:∀ (n len:Nat) (ds:List DV),SV.gV n len ds o.cells=o.cells:=fun n len ds=>SV.gZ (q:=fun _=>false) rfl _ (aq.aj _ _)
 have eT:tC o (.d (.sl o.cl.length (o.cl.reverse.flatMap Cm.ds)))=(oT o).cells:=rfl
 refine SW.jf 3 (o.cl.reverse.flatMap Cm.ds) rfl rfl ?_
 simp only [kU,SV.gu,List.map_cons,List.map_nil,if_true,if_false,reduceIte,dx,Nat.reduceEqDiff,sJ,Ob.gu,SV.gV,eC,tC.gu,eT]
 obtain ⟨a,ca,m,cm,h⟩:=z7 l0
 have ht:=h.tok
 obtain ⟨L,hL,hL9,_⟩:=ht.I9 o.aQ
 obtain ⟨m1,m2,m3,m4⟩:=pq a m
 obtain ⟨tl1,tl2⟩:=DB ho
 refine SW.seq ?_
 have okT:=And.intro (aq.aj o) <| And.intro (aq.aD o) <| And.intro (aq.aj (oT o)) <| aq.aD (oT o)
 refine SW.weak id (st1:=⟨[(7,.ptr 2 0),(5,.ptr 1 0),(4,.ptr 0 0),(0,ops l0)],[(2,.box 35 (oT o).cells),(1,.box 35 o.cells),(0,.box 26 [dD l,cF s])],3⟩) (bg.mk okT) ?_
 (refine SW.ai [0,1,2,4,5,6,7,8,9,10,11,12,13,14,15,16,17,32,41,56,71,125,130,150] mixed ?_;(repeat (first | refine RW.ro U (h:= ?_) | refine RW.skip (h:= ?_) | refine RW.op U (h:= ?_) | refine RW.aF U (h:= ?_) | refine RW.ah (h:= ?_) | (refine RW.ax (h:= ?_);(first | refine af.mk U (hc:=h.Ix (by omega)) (h:= ?_)))));refine RW.nil ⟨by kernel_rfl,aa.mk (h:= ?_)⟩)
 refine SW.weak (fun n=>if n=0 then 3 else if n=1 then 4 else if n=2 then 5 else if n=3 then 0 else if n=4 then 1 else if n=5 then 2 else n) (st1:=⟨[(10,.ptr 2 0),(7,.ptr 5 0),(5,.ptr 4 0),(4,.ptr 3 0)],(5,.box 35 (oT o).cells)::(4,.box 35 o.cells)::(3,.box 26 [dD l,cF s])::H2 a ca m cm,6⟩) (bg.mk (And.intro m1 <| And.intro m2 <| And.intro m3 <| And.intro m4 okT)) ?_
 have c1:=fun k=>h.jg l (by omega) b4 s (by omega) jJ o ho (by omega) L hL (by omega) k
 have c2:=fun k=>h.jg l (by omega) b4 s (by omega) jJ (oT o) tl1 (by rw [tl2,List.length_reverse];omega) L hL (by omega) k
 have s7:bE dP 0 dP=dP:=rfl
 have sp2:∀ x y:SV,bE [SV.d DV.ay,SV.d DV.ay] 0 [x,y]=[x,y]:=fun x y=>rfl
 have b0:∀ z:Int,(z != z)=false:=fun z=>bne_self_eq_false z
 refine SW.seq ?_
 rcases DD (a:=a) (l:=l) (s:=s) (D:=L.map (·.dot)) ho hnd with ⟨e,he,h1,h2⟩ | ⟨R,T,hD,hD2⟩
 ·have q1:=fun k=>kz l l (by omega) (by omega) b4 b4 k
  have q2:=fun k=>kG s s (by omega) (by omega) k
  have el:decide (l=l)=true:=by simp
  have es:decide (s=s)=true:=by simp
  rw [el] at q1
  rw [es] at q2
  rw [h1] at c1
  rw [h2] at c2
  (refine SW.ai [0,1,2,4,5,6,7,8,9,10,11,12,13,14,15,16,17,32,41,56,71,125,130,150] mixed ?_;(repeat (first | refine RW.ro (And.intro (s7) (sp2)) (h:= ?_) | refine RW.skip (h:= ?_) | refine RW.op (And.intro (s7) (sp2)) (h:= ?_) | refine RW.aF (And.intro (s7) (sp2)) (h:= ?_) | refine RW.ah (h:= ?_) | (refine RW.ax (h:= ?_);(first | refine af.mk (And.intro (s7) (sp2)) (hc:=c1 _) (h:= ?_)))));refine RW.nil ⟨by kernel_rfl,aa.mk (h:= ?_)⟩)
  refine SW.seq ?_
  (refine SW.ai [0,1,2,4,5,6,7,8,9,10,11,12,13,14,15,16,17,32,41,56,71,125,130,150] mixed ?_;(repeat (first | refine RW.ro (And.intro (s7) (sp2)) (h:= ?_) | refine RW.skip (h:= ?_) | refine RW.op (And.intro (s7) (sp2)) (h:= ?_) | refine RW.aF (And.intro (s7) (sp2)) (h:= ?_) | refine RW.ah (h:= ?_) | (refine RW.ax (h:= ?_);(first | refine af.mk (And.intro (s7) (sp2)) (hc:=c2 _) (h:= ?_)))));refine RW.nil ⟨by kernel_rfl,aa.mk (h:= ?_)⟩)
  refine SW.seq (SW.seq ?_)
  (refine SW.ai [0,1,2,4,5,6,7,8,9,10,11,12,13,14,15,16,17,32,41,56,71,125,130,150] mixed ?_;(repeat (first | refine RW.ro (b0) (h:= ?_) | refine RW.skip (h:= ?_) | refine RW.op (b0) (h:= ?_) | refine RW.aF (b0) (h:= ?_) | refine RW.ah (h:= ?_) | (refine RW.ax (h:= ?_);(first | refine af.mk (b0) (hc:=q1 _) (h:= ?_) | refine af.mk (b0) (hc:=q2 _) (h:= ?_)))));refine RW.nil ⟨by kernel_rfl,aa.mk (h:= ?_)⟩)
  refine SW.ak rfl (SW.skip ?_)
  refine SW.seq (SW.seq ?_)
  (refine SW.ai [0,1,2,4,5,6,7,8,9,10,11,12,13,14,15,16,17,32,41,56,71,125,130,150] mixed ?_;(repeat (first | refine RW.ro U (h:= ?_) | refine RW.skip (h:= ?_) | refine RW.op U (h:= ?_) | refine RW.aF U (h:= ?_) | refine RW.ah (h:= ?_)));refine RW.nil ⟨by kernel_rfl,aa.mk (h:= ?_)⟩)
  refine SW.block ?_
  refine SW.c8 (α:=Unit) (fun _=>⟨[(17,.d (.int .i64 0)),(11,.ptr 0 0)],[(0,.box 45 dP)],1⟩) (fun _=>0) () (fun n=>if n=0 then 6 else n) U (round:= ?_)
  rintro ⟨⟩
  dsimp only
  refine SW.seq (SW.seq ?_)
  (refine SW.ai [0,1,2,4,5,6,7,8,9,10,11,12,13,14,15,16,17,32,41,56,71,125,130,150] mixed ?_;(repeat (first | refine RW.ro U (h:= ?_) | refine RW.skip (h:= ?_) | refine RW.op U (h:= ?_) | refine RW.aF U (h:= ?_) | refine RW.ah (h:= ?_)));refine RW.nil ⟨by kernel_rfl,aa.mk (h:= ?_)⟩)
  refine SW.ak rfl (SW.exit (SW.seq ?_))
  (refine SW.ai [0,1,2,4,5,6,7,8,9,10,11,12,13,14,15,16,17,32,41,56,71,125,130,150] mixed ?_;(repeat (first | refine RW.ro U (h:= ?_) | refine RW.skip (h:= ?_) | refine RW.op U (h:= ?_) | refine RW.aF U (h:= ?_) | refine RW.ah (h:= ?_) | (refine RW.ax (h:= ?_);(first | refine af.mk U (hc:=bk _) (h:= ?_)))));refine RW.nil ⟨by kernel_rfl,aa.mk (h:= ?_)⟩)
  refine SW.ret ?_
  exact End.mk [] (h4:=rfl)
 have e2:fD a l s (oT o) (L.map (·.dot))= .cg [.agg (aG o.dot o.aQ o.who (fC (cI l R.2).reverse) T),.agg [dD R.1,cF (xO T s (L.map (·.dot)))],.d (.int .u8 1)]:=by
  rw [← pF];exact hD2.eq
 rw [hD.eq] at c1
 rw [e2] at c2
 have hRl:R.1.length=l.length:=hD.cl.len
 have hRb:=hD.Jo b4
 have hXl:=Ab T s (L.map (·.dot))
 rw [List.length_map] at hXl
 have hol:=mC hD.cl.lt
 have hisl:R.2.length≤l.length:=sR l.length hD.cl.nd hD.cl.lt
 generalize xO T s (L.map (·.dot))=X at c1 c2 hXl
 generalize cI l R.2=out at c1 c2 hol
 have q1:=fun k=>kz R.1 R.1 (by omega) (by omega) hRb hRb k
 have q2:=fun k=>kG X X (by omega) (by omega) k
 have el:decide (R.1=R.1)=true:=by simp
 have es:decide (X=X)=true:=by simp
 rw [el] at q1
 rw [es] at q2
 have hrl:out.reverse.length=out.length:=List.length_reverse
 have qlen:((out.length:Int) != (out.reverse.length:Int))=false:=by rw [hrl];exact bne_self_eq_false _
 (have fx:=(And.intro (aG.xP) (And.intro (aG.len) (And.intro (aG.one) (sp2))));refine SW.ai [0,1,2,4,5,6,7,8,9,10,11,12,13,14,15,16,17,32,41,56,71,125,130,150] mixed ?_;(repeat (first | refine RW.ro fx (h:= ?_) | refine RW.skip (h:= ?_) | refine RW.op fx (h:= ?_) | refine RW.aF fx (h:= ?_) | refine RW.ah (h:= ?_) | (refine RW.ax (h:= ?_);(first | refine af.mk fx (hc:=c1 _) (h:= ?_)))));refine RW.nil ⟨by kernel_rfl,aa.mk (h:= ?_)⟩)
 refine SW.seq ?_
 (have fx:=(And.intro (aG.xP) (And.intro (aG.len) (And.intro (aG.one) (sp2))));refine SW.ai [0,1,2,4,5,6,7,8,9,10,11,12,13,14,15,16,17,32,41,56,71,125,130,150] mixed ?_;(repeat (first | refine RW.ro fx (h:= ?_) | refine RW.skip (h:= ?_) | refine RW.op fx (h:= ?_) | refine RW.aF fx (h:= ?_) | refine RW.ah (h:= ?_) | (refine RW.ax (h:= ?_);(first | refine af.mk fx (hc:=c2 _) (h:= ?_)))));refine RW.nil ⟨by kernel_rfl,aa.mk (h:= ?_)⟩)
 refine SW.seq (SW.seq ?_)
 (refine SW.ai [0,1,2,4,5,6,7,8,9,10,11,12,13,14,15,16,17,32,41,56,71,125,130,150] mixed ?_;(repeat (first | refine RW.ro (And.intro (b0) (qlen)) (h:= ?_) | refine RW.skip (h:= ?_) | refine RW.op (And.intro (b0) (qlen)) (h:= ?_) | refine RW.aF (And.intro (b0) (qlen)) (h:= ?_) | refine RW.ah (h:= ?_) | (refine RW.ax (h:= ?_);(first | refine af.mk (And.intro (b0) (qlen)) (hc:=q1 _) (h:= ?_) | refine af.mk (And.intro (b0) (qlen)) (hc:=q2 _) (h:= ?_)))));refine RW.nil ⟨by kernel_rfl,aa.mk (h:= ?_)⟩)
 refine SW.ak rfl (SW.skip ?_)
 refine SW.seq (SW.seq ?_)
 (refine SW.ai [0,1,2,4,5,6,7,8,9,10,11,12,13,14,15,16,17,32,41,56,71,125,130,150] mixed ?_;(repeat (first | refine RW.ro U (h:= ?_) | refine RW.skip (h:= ?_) | refine RW.op U (h:= ?_) | refine RW.aF U (h:= ?_) | refine RW.ah (h:= ?_)));refine RW.nil ⟨by kernel_rfl,aa.mk (h:= ?_)⟩)
 refine SW.block ?_
 have oo:∀ (q:Nat→Bool) (xs:List av),SV.aI q (aG o.dot o.aQ o.who (fC xs) T)=true:=fun q xs=>rfl
 have orr:∀ (ρ:Nat→Nat) (xs:List av),SV.bh ρ (aG o.dot o.aQ o.who (fC xs) T)=aG o.dot o.aQ o.who (fC xs) T:=fun ρ xs=>rfl
 refine SW.c8 (α:={i:Nat // i≤out.length}) (fun i=>⟨[(17,i64 i.1),(11,.ptr 0 0),(14,.ptr 1 0)],[(1,.box 45 (aG o.dot o.aQ o.who (fC out.reverse) T)),(0,.box 45 (aG o.dot o.aQ o.who (fC out) T))],2⟩) (fun i=>out.length - i.1) ⟨0,by omega⟩ (fun n=>if n=0 then 6 else if n=1 then 8 else n) (And.intro oo orr) (round:= ?_)
 rintro ⟨i,hi⟩
 dsimp only
 refine SW.seq (SW.seq ?_)
 by_cases hlt:i<out.length
 ·have h1:decide ((i:Int)<(out.length:Int))=true:=by simp only [decide_eq_true_eq];omega
  have e3:IntKind.i64.wrap ((i:Int)+1)=((i+1:Nat):Int):=wrap_i64 _ (by omega)
  obtain ⟨x,hx⟩:=aL hlt
  have hy:out.reverse[out.length - 1 - i]? =some x:=by
   rw [List.getElem?_reverse (by omega),show out.length - 1 - (out.length - 1 - i)=i by omega];exact hx
  have hyl:out.length - 1 - i<out.reverse.length:=by omega
  have w1:IntKind.i64.wrap ((out.reverse.length:Int) - 1)=(out.reverse.length:Int) - 1:=wrap_i64 _ (by omega)
  have w2:IntKind.i64.wrap ((out.reverse.length:Int) - 1 - (i:Int))=((out.length - 1 - i:Nat):Int):=by
   rw [show (out.reverse.length:Int) - 1 - (i:Int)=((out.length - 1 - i:Nat):Int) by omega];exact wrap_i64 _ (by omega)
  have d0:decide (x.dot=x.dot)=true:=by simp
  generalize out.length - 1 - i=j at hy hyl w2
  (refine SW.ai [0,1,2,4,5,6,7,8,9,10,11,12,13,14,15,16,17,32,41,56,71,125,130,150] mixed ?_;(repeat (first | refine RW.ro (h1) (h:= ?_) | refine RW.skip (h:= ?_) | refine RW.op (h1) (h:= ?_) | refine RW.aF (h1) (h:= ?_) | refine RW.ah (h:= ?_)));refine RW.nil ⟨by kernel_rfl,aa.mk (h:= ?_)⟩)
  refine SW.au rfl (SW.skip (SW.seq (SW.block (SW.seq ?_))))
  (have fx:=(And.intro (Ac hx) (And.intro (Ad hx) (And.intro (hlt) (And.intro (Ac hy) (And.intro (Ad hy) (And.intro (hyl) (And.intro (w1) (And.intro (w2) (d0)))))))));refine SW.ai [0,1,2,4,5,6,7,8,9,10,11,12,13,14,15,16,17,32,41,56,71,125,130,150] mixed ?_;(repeat (first | refine RW.ro fx (h:= ?_) | refine RW.skip (h:= ?_) | refine RW.op fx (h:= ?_) | refine RW.aF fx (h:= ?_) | refine RW.ah (h:= ?_)));refine RW.nil ⟨by kernel_rfl,aa.mk (h:= ?_)⟩)
  refine SW.ak rfl (SW.skip ?_)
  (refine SW.ai [0,1,2,4,5,6,7,8,9,10,11,12,13,14,15,16,17,32,41,56,71,125,130,150] mixed ?_;(repeat (first | refine RW.ro (e3) (h:= ?_) | refine RW.skip (h:= ?_) | refine RW.op (e3) (h:= ?_) | refine RW.aF (e3) (h:= ?_) | refine RW.ah (h:= ?_)));refine RW.nil ⟨by kernel_rfl,aa.mk (h:= ?_)⟩)
  exact ⟨⟨i+1,by omega⟩,id,by show out.length - (i+1)<out.length - i;omega,bg.mk (And.intro oo orr)⟩
 have h1:decide ((i:Int)<(out.length:Int))=false:=by simp only [decide_eq_false_iff_not];omega
 (refine SW.ai [0,1,2,4,5,6,7,8,9,10,11,12,13,14,15,16,17,32,41,56,71,125,130,150] mixed ?_;(repeat (first | refine RW.ro (h1) (h:= ?_) | refine RW.skip (h:= ?_) | refine RW.op (h1) (h:= ?_) | refine RW.aF (h1) (h:= ?_) | refine RW.ah (h:= ?_)));refine RW.nil ⟨by kernel_rfl,aa.mk (h:= ?_)⟩)
 refine SW.ak rfl (SW.exit (SW.seq ?_))
 (refine SW.ai [0,1,2,4,5,6,7,8,9,10,11,12,13,14,15,16,17,32,41,56,71,125,130,150] mixed ?_;(repeat (first | refine RW.ro U (h:= ?_) | refine RW.skip (h:= ?_) | refine RW.op U (h:= ?_) | refine RW.aF U (h:= ?_) | refine RW.ah (h:= ?_) | (refine RW.ax (h:= ?_);(first | refine af.mk U (hc:=bk _) (h:= ?_)))));refine RW.nil ⟨by kernel_rfl,aa.mk (h:= ?_)⟩)
 refine SW.ret ?_
 exact End.mk [] (h4:=rfl)
end
end Go.Proofs.Ytefjaphfnkbbkaa
