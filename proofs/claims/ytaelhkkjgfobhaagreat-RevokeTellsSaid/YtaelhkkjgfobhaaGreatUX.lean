/-
 Revoke: what the index says is what the document says (plain).
-/
import Derived.Test.YtaelhkkjgfobhaaGreatUW
import Derived.Test.YtaelhkkjgfobhaaGreatUS
import Derived.Test.YtaelhkkjgfobhaaGreatU6
import Derived.Test.YtaelhkkjgfobhaaGreatUN
set_option linter.unusedSectionVars false
set_option linter.unusedVariables false
set_option linter.unusedSimpArgs false
namespace Go.Proofs.YtaelhkkjgfobhaaGreat
open Go.Sl Go.Proofs
section
theorem pR {l:List ag}{s:List Dt}{p:Dt→Bool}(h:∀ v,v∈s↔dZ l v=true∧p v=true):Dt.set s=(aI l).filter p:=
 Dt.gj (Dt.fu _) ((Dt.fu _).filter _) fun v=>by rw [Dt.mem_set,h,List.mem_filter,oJ]
section
variable {l:List ag} {S:Sh} (h:cq l S)
include h
theorem cq.uD (d:Dt):S.good d=dZ l d:=h.good d
theorem cq.Me {d:Dt}(hg:S.good d=true):Dt.set (h.X.pM (h.X.op d))=(aI l).filter (mU l d):=by
 refine pR fun v=> ?_
 rw [h.K6 hg,h.BJ hg,Sh.sP,h.kI,h.base.op,h.base.op,← h.uD]
 unfold mU qF
 simp only [Bool.and_eq_true,decide_eq_true_eq,Bool.not_eq_true']
 constructor
 ·rintro ⟨_,h1,h2,h3,h4⟩
  exact ⟨h1,h2,h3,h4⟩
 ·rintro ⟨h1,h2,h3,h4⟩
  exact ⟨(h.wR.2 h1).1,h1,h2,h3,h4⟩
theorem cq.Mf (d:Dt):Dt.set (h.X.nu d)=(aI l).filter (nt l d):=by
 refine pR fun v=> ?_
 rw [h.Hg,List.mem_filter,← h.uD]
 unfold nt Sh.rv
 simp only [Bool.and_eq_true,decide_eq_true_eq,h.base.op]
 constructor
 ·rintro ⟨_,h1,h2,h3⟩
  exact ⟨h1,h2,h3⟩
 ·rintro ⟨h1,h2,h3⟩
  exact ⟨(h.wR.2 h1).1,h1,h2,h3⟩
theorem cq.Mg {d:Dt}(hg:S.good d=true):Dt.set (h.X.zJ d)=(aI l).filter (nX l d):=by
 refine pR fun v=> ?_
 rw [h.wS,Sh.sP,h.kI,h.base.op,h.base.op,← h.uD]
 unfold nX qF
 simp only [Bool.and_eq_true,decide_eq_true_eq,Bool.not_eq_true']
 constructor
 ·rintro ⟨h0,_,h1,h2,h3,h4⟩
  exact ⟨h0,h2,h3,h4⟩
 ·rintro ⟨h0,h2,h3,h4⟩
  exact ⟨h0,(h.wR.2 hg).1,hg,h2,h3,h4⟩
theorem cq.Mh {d:Dt}(hg:S.good d=false):Dt.set (h.X.zJ d)=[]:=by
 have:h.X.zJ d=[]:=List.eq_nil_iff_forall_not_mem.2 fun v hv=>by
  rw [h.wS,Sh.sP] at hv
  rw [hg] at hv
  exact absurd hv.2.2.1 (by decide)
 rw [this];exact List.eq_nil_of_length_eq_zero (Nat.le_zero.1 (Dt.EX []))
theorem cq.E9 {d:Dt}(hg:S.good d=true):h.X.nY d=jA l d:=by
 unfold Ix.nY jA
 rw [h.BI hg,h.kI,h.base.op]
theorem cq.Mi:fK h.X.pQ=fK (pQ l):=by
 have hk:∀ v,v∈MM.keys h.X.ops↔v∈aI l:=fun v=>by rw [← MM.iA,h.rP,h.uD,oJ]
 have hc:∀ v,v∈MM.keys h.X.ops→h.X.nY v=jA l v:=fun v hv=>h.E9 (by rw [h.uD];exact oJ.1 ((hk v).1 hv))
 have e1:uY h.X.nY (MM.keys h.X.ops)=uY (jA l) (MM.keys h.X.ops):=Nat.le_antisymm (pP fun v hv=>by rw [hc v hv];exact qK hv) (pP fun v hv=>by rw [← hc v hv];exact qK hv)
 have e2:h.X.pQ=(List.range (uY (jA l) (MM.keys h.X.ops))).map fun j=>(MM.keys h.X.ops).filter fun v=>decide (jA l v=j):=by
  unfold Ix.pQ
  rw [e1]
  refine List.map_congr_left fun j _=>List.filter_congr fun v hv=> ?_
  rw [hc v hv]
 rw [e2]
 exact vM hk
end
theorem E_ {l:List ag}{L:List Dt}(h:L∈pQ l):Dt.set L=L:=by
 obtain ⟨j,_,rfl⟩:=List.mem_map.1 h
 exact Dt.gj (Dt.fu _) ((Dt.fu _).filter _) fun v=>Dt.mem_set
end
section
attribute [local irreducible] SW RW aG SC aj an iI rO vN
abbrev Sh.g11 (S:Sh):Hp:=[(11,.box 117 [.ptr 3 0,.mp 8,.mp 9,.mp 10]),(8,.map (aq Dt.cells ov S.ops) S.co),(9,.map (aq Dt.cells iv S.gB) S.ca),(10,.map (aq Dt.cells dv S.nA) S.cl),
 (3,.box 166 [.mp 1,.mp 2]),(1,.map (aq Dt.cells cv S.tr) S.ct),(2,.map (aq Dt.cells ov S.md) S.cm)]
abbrev hX1 (S:Sh)(X:Ix):Hp:=(15,.box 110 [.any,.mp 12,.mp 13,.mp 14])::(14,.map (aq Dt.cells dn X.jP) X.cf)::(13,.map (aq Dt.cells dn X.ch) X.cc)::(12,.map (aq Dt.cells ov X.ops) X.co)::S.g11
theorem Hr (S:Sh)(X:Ix):Hp.aB (· +1) (hX S X)=hX1 S X:=by
 simp only [Hp.aB,List.map_cons,List.map_nil,Ob.aB,SV.aX,SV.aB,iB,cF,oB,eL,gC]
theorem JF (l:List ag)(hl:l.length<1000000000)(hd:∀ o,o∈l→o.kind<256∧o.nw):SC Tryz.prog shape_New.f [ops l] [] 1 11 fun r F=>∃ S,cq l S∧r= .ptr 11 0∧F=S.g11:=Az l hl hd 1
theorem cq.JG {l:List ag}{S:Sh}(h:cq l S)(hl:l.length≤80)(hs:m_ S):aG Tryz.prog revoke_New.f [.ptr 11 0] S.g11 12 4 (.ptr 15 0) (hX1 S h.X):=by
 have:=h.Le hl hs 1
 rw [Hr,S.Ay 1] at this
 exact this
abbrev Ix.uI (X:Ix):Hp:=[(15,.box 110 [.any,.mp 12,.mp 13,.mp 14]),(12,.map (aq Dt.cells ov X.ops) X.co),(13,.map (aq Dt.cells dn X.ch) X.cc),(14,.map (aq Dt.cells dn X.jP) X.cf)]
theorem Ix.Li (X:Ix)(k:Nat):X.h0.aB (fH [15,12,13,14] k)=X.uI:=by
 simp [Hp.aB,Ob.aB,SV.aX,SV.aB,fH,cF,gC]
theorem Ix.yx (X:Ix):∀ i,i< [15,12,13,14].length→lk X.h0 i≠none:=fun i hi=>by
 match i,hi with
 | 0,_ | 1,_ | 2,_ | 3,_=>simp [aa]
theorem Ix.Fa {X:Ix}{f:FuncId}{args args':List SV}{nk:Nat}{r r':SV}(h:SB Tryz.prog f args X.h0 4 nk fun v F=>v=r∧F=X.h0)(ha:∀ k,SV.aX (fH [15,12,13,14] k) args=args')(hr:∀ k,r.aB (fH [15,12,13,14] k)=r')(k:Nat):aG Tryz.prog f args' X.uI k nk r' X.uI:=by
 have:=SB.q_ [15,12,13,14] h (by decide) X.yx k
 rw [X.Li,ha,hr] at this
 exact this
abbrev tH (X:Ix)(d:Dt):Hp:=X.uI++[(0,.box 37 d.cells)]
theorem yB (X:Ix)(d:Dt){k:Nat}(hk:16≤k):(tH X d).ok (fun n=>decide (n<k))=true:=
 au (by simp;omega) (by simp [Ob.ok,SV.av,SV.ok];omega) (au (by simp;omega) (bu _ _) (au (by simp;omega) (dH _ _) (au (by simp;omega) (dH _ _) (au (by simp;omega) (by simp [Ob.ok,Dt.ah]) rfl))))
theorem AS (X:Ix)(d:Dt):∀ y,y∈tH X d→lk (tH X d) y.1=some y.2:=fun y hy=>by
 simp only [tH,List.cons_append,List.nil_append,List.mem_cons,List.not_mem_nil,or_false] at hy
 rcases hy with rfl | rfl | rfl | rfl | rfl <;> rfl
structure Lj (l:List ag)(X:Ix)(d:Dt)(n:Int)(e:Int)(b:Bool)(V W R R' T U:DV):Prop where
 c1:∀ k,aG Tryz.prog revoke_Index_Level.f [.ptr 15 0,.agg d.cells] X.uI k 2 (.cN [.d (.int .i64 n),.d (.int .i64 e)]) X.uI
 c2:∀ k,aG Tryz.prog ref18_Level.f [ops l,.agg d.cells] [] k 0 (.cN [.d (.int .i64 n),bl b]) []
 c3:∀ k,aG Tryz.prog revoke_Index_Threats.f [.ptr 15 0,.agg d.cells] X.uI k (9+iI 4) (.cN [.d V,.d (.int .i64 e)]) X.uI
 c4:∀ k,aG Tryz.prog ref18_Threats.f [ops l,.agg d.cells] [] k 0 (.cN [.d W,bl b]) []
 c5:∀ k,aG Tryz.prog ref03_Same.f [.d V,.d W] [] k 0 (bl true) []
 c6:∀ k,aG Tryz.prog revoke_Index_Revokes.f [.ptr 15 0,.agg d.cells] X.uI k 1 (.d R) X.uI
 c7:∀ k,aG Tryz.prog ref18_Revokes.f [ops l,.agg d.cells] [] k 0 (.d R') []
 c8:∀ k,aG Tryz.prog ref03_Same.f [.d R,.d R'] [] k 0 (bl true) []
 c9:∀ k,aG Tryz.prog revoke_Index_Threatened.f [.ptr 15 0,.agg d.cells] X.uI k (6+rO 4) (.d T) X.uI
 cA:∀ k,aG Tryz.prog ref18_Threatened.f [ops l,.agg d.cells] [] k 0 (.d U) []
 cB:∀ k,aG Tryz.prog ref03_Same.f [.d T,.d U] [] k 0 (bl true) []
 eb:(e == 0)=b
theorem qL (A:List Dt)(hA:A.length<1000000000)(k:Nat):aG Tryz.prog ref03_Same.f [aU A,aU A] [] k 0 (bl true) []:=by
 have:=wg A A (by omega) (by omega) k
 rwa [decide_eq_true rfl] at this
theorem rR (A:List Dt)(hA:A.length<1000000000)(k:Nat):aG Tryz.prog ref03_Same.f [aU A,dn A] [] k 0 (bl true) []:=by
 have:=qL A hA k
 unfold aG at this ⊢
 exact SC.Md (a:=[aU A]) A this
theorem BV (k:Nat):aG Tryz.prog ref03_Same.f [.d .aD,.d .aD] [] k 0 (bl true) []:=by
 have:=rR [] (by decide) k
 unfold aG at this ⊢
 exact SC.Md (a:=[]) (b:=[.d .aD]) [] this
theorem cq.tell {l:List ag}{S:Sh}(h:cq l S)(hl:l.length≤80)(hd:∀ x,x∈l→x.aN<256∧x.nw∧x.dot.wf)(d:Dt):∃ n e b V W R R' T U,Lj l h.X d n e b V W R R' T U:=by
 have hX:=h.small hl
 have gl:=jQ hl hd
 have gf:∀ p,((aI l).filter p).length<1000000000:=fun p=>Nat.lt_of_le_of_lt (List.length_filter_le _ _) (by omega)
 have k1:∀ r',(∀ k,SV.aB (fH [15,12,13,14] k) (eu h.X d)=r')→∀ k,aG Tryz.prog revoke_Index_Level.f [.ptr 15 0,.agg d.cells] h.X.uI k 2 r' h.X.uI:=fun r' hr=>Ix.Fa (rK h.X hX d) (fun k=>by simp [SV.aX,SV.aB,fH,Dt.ax]) hr
 have k2:=vL hl hd d
 have k3:∀ r',(∀ k,SV.aB (fH [15,12,13,14] k) (fV h.X d)=r')→∀ k,aG Tryz.prog revoke_Index_Threats.f [.ptr 15 0,.agg d.cells] h.X.uI k (9+iI 4) r' h.X.uI:=fun r' hr=>Ix.Fa (AL h.X hX d) (fun k=>by simp [SV.aX,SV.aB,fH,Dt.ax]) hr
 have k4:=BR hl hd d
 have k6:∀ k,aG Tryz.prog revoke_Index_Revokes.f [.ptr 15 0,.agg d.cells] h.X.uI k 1 (aU (Dt.set (h.X.nu d))) h.X.uI:=Ix.Fa (AK h.X hX d) (fun k=>by simp [SV.aX,SV.aB,fH,Dt.ax]) (fun k=>rfl)
 have k7:=zN hl hd d
 have k9:∀ k,aG Tryz.prog revoke_Index_Threatened.f [.ptr 15 0,.agg d.cells] h.X.uI k (6+rO 4) (aU (Dt.set (h.X.zJ d))) h.X.uI:=Ix.Fa (AO h.X hX d) (fun k=>by simp [SV.aX,SV.aB,fH,Dt.ax]) (fun k=>rfl)
 have kA:=BT hl hd d
 rw [h.Mf] at k6
 have k8:=qL _ (gf (nt l d))
 have e15:∀ (dv:DV) (z:Int) (k:Nat),SV.aB (fH [15,12,13,14] k) (.cN [.d dv,.d (.int .i64 z)])= .cN [.d dv,.d (.int .i64 z)]:=fun _ _ _=>rfl
 have e16:∀ (y:Int) (z:Int) (k:Nat),SV.aB (fH [15,12,13,14] k) (.cN [.d (.int .i64 y),.d (.int .i64 z)])= .cN [.d (.int .i64 y),.d (.int .i64 z)]:=fun _ _ _=>rfl
 rcases hg:S.good d with _ | _
 ·have hg':dZ l d=false:=by rw [← h.uD];exact hg
  rw [h.Mh hg] at k9
  exact ⟨0,7,false,.aD,.aD,_,_,_,.aD,⟨k1 _ fun k=>by unfold eu;rw [h.rP,hg];rfl,fun k=>by have:=k2 k;unfold jf at this;rw [hg'] at this;exact this,k3 _ fun k=>by unfold fV;rw [h.rP,hg];rfl,fun k=>by have:=k4 k;unfold qI at this;rw [hg'] at this;exact this,BV,k6,k7,k8,k9,fun k=>by have:=kA k;unfold qJ at this;rw [hg'] at this;exact this,rR [] (by decide),rfl⟩⟩
 ·have hg':dZ l d=true:=by rw [← h.uD];exact hg
  rw [h.Mg hg] at k9
  exact ⟨(jA l d:Int) - 1,0,true,B8 ((aI l).filter (mU l d)),B8 ((aI l).filter (mU l d)),_,_,_,_,⟨k1 _ fun k=>by unfold eu;rw [h.rP,hg];show SV.aB _ (.cN [.d (.int .i64 ((h.X.nY d:Int) - 1)),i64 0])=_;rw [h.E9 hg];rfl,fun k=>by have:=k2 k;unfold jf at this;rw [hg'] at this;exact this,k3 _ fun k=>by unfold fV;rw [h.rP,hg,h.Me hg];rfl,fun k=>by have:=k4 k;unfold qI at this;rw [hg'] at this;exact this,qL _ (gf _),k6,k7,k8,k9,fun k=>by have:=kA k;unfold qJ at this;rw [hg'] at this;exact this,qL _ (gf _),rfl⟩⟩
theorem Fb {X:Ix}(hX:X.small)(h9:∀ d,X.nY d≤9)(k:Nat):aG Tryz.prog revoke_Index_Levels.f [.ptr 15 0] X.uI k vN (fK X.pQ) X.uI:=Ix.Fa (E8 X hX h9) (fun k=>by simp [SV.aX,SV.aB,fH]) (fun k=>rfl) k
theorem Fc (l:List ag)(hc:∀ v,jA l v≤9):(pQ l).length≤10:=by
 unfold pQ
 rw [List.length_map,List.length_range]
 exact pP fun v _=>by have:=hc v;omega
theorem wY {α β:Type}{R:List α}{i:Nat}{x:α}(f:α→β)(h:R[i]? =some x):(R.map f)[i]? =some (f x):=by rw [List.getElem?_map,h];rfl
set_option maxHeartbeats 16000000 in
theorem yC (l:List ag)(d:Dt)(hd:∀ o,o∈l→o.aN<256∧o.kind<256∧o.nw∧o.dot.wf∧o.cl.length≤140737488351232)(hlen:l.length≤9223372036854775807):
  SB Tryz.prog law18_RevokeTells.f [ops l,.agg d.cells] [] 0 0 (fun r F=>r=bl true):=by
 refine law18_RevokeTells.enter (by first | rfl | simp [SV.ok,SV.av]) (by first | rfl | simp [Hp.ok,Ob.ok,SV.ok,SV.av,aJ.ah]) (by simp) ?_
 dsimp only [law18_RevokeTells.s,Co.M,Co.G,Co.J,Co.H,Co.N,Co.F,Co.C,Co.Z,Co.B,Co.b8,Co.ay,Co.bz,Co.i6,Co.z8,Co.bC]
 have hG':=CV l (fun o ho=>⟨_,_,(hd o ho).2.2.1.eq,(hd o ho).2.2.1.le⟩) hlen
 refine SW.seq ?_
 refine SW.g0 [0,1,3,4,5,6,7,8,9,10,11,12,13,14,15,16,18,24,100,104,116] mixed af ?_
 refine SW.seq (SW.seq ?_)
 rcases hG:iX l with _ | _
 rotate_left
 ·rw [hG] at hG'
  refine SW.g2 [0,1,3,4,5,6,7,8,9,10,11,12,13,14,15,16,18,24,100,104,116] mixed af hG' rQ ?_
  refine SW.ak rfl (SW.seq ?_)
  refine SW.g2 [0,1,3,4,5,6,7,8,9,10,11,12,13,14,15,16,18,24,100,104,116] mixed af hG' rQ ?_
  refine SW.ret ?_
  exact End.mk [] (h4:=rfl)
 rw [hG] at hG'
 have hl80:=vz hG
 have hd':=yq hG (fun o ho=>⟨(hd o ho).2.2.1,(hd o ho).2.2.2.2⟩)
 have hd3:∀ o,o∈l→o.aN<256∧o.nw∧o.dot.wf:=fun o ho=>⟨(hd o ho).1,(hd o ho).2.2.1,(hd o ho).2.2.2.1⟩
 refine SW.g1 [0,1,3,4,5,6,7,8,9,10,11,12,13,14,15,16,18,24,100,104,116] mixed af hG' ?_
 refine SW.ai rfl (SW.skip ?_)
 refine SW.seq (SW.y9 ?_)
 (repeat (first | refine bB.op af (h:= ?_) | refine bB.dw af (h:= ?_) | refine bB.skip (h:= ?_)))
 refine bB.aY (JF l (by omega) (fun o ho=>⟨(hd o ho).2.1,(hd o ho).2.2.1⟩)) (HSub.nil _) (h:= ?_)
 rintro _ _ ⟨S,h,rfl,rfl⟩
 simp only [bL,cZ,c_,fO,gq,bS,lk,List.lookup,Nat.reduceBEq,BEq.rfl,beq_self_eq_true,if_true,if_false,reduceIte,Nat.reduceEqDiff,Bool.false_eq_true,Option.isSome_some,Option.isSome_none,Nat.reduceAdd]
 refine bB.qj af (h.JG hl80 (h.short fun o ho=>⟨(hd o ho).2.1,(hd o ho).2.2.1,hd' o ho⟩)) (h:= ?_)
 (repeat (first | refine bB.op af (h:= ?_) | refine bB.dw af (h:= ?_) | refine bB.skip (h:= ?_)))
 refine bB.nil ?_
 refine SW.seq (SW.seq ?_)
 refine SW.g0 [0,1,3,4,5,6,7,8,9,10,11,12,13,14,15,16,18,24,100,104,116] mixed af ?_
 refine SW.ai rfl (SW.skip ?_)
 obtain ⟨n,e,b,V,W,Rv,Rw,T,U,t⟩:=h.tell hl80 hd3 d
 have h9:∀ d,h.X.nY d≤9:=fun d=>by
  cases hg:S.good d with
  | true=>rw [h.E9 hg];exact nW hl80 hd3 _
  | false=>unfold Ix.nY;rw [h.H8 hg];exact Nat.zero_le _
 have cL:=Fb (h.small hl80) h9
 have rL:=fun k=>(zO hl80 hd3).sc rfl k
 rw [h.Mi] at cL
 have hRl:=Fc l fun v=>nW hl80 hd3 _
 have hRs:∀ L,L∈pQ l→∀ k,aG Tryz.prog ref03_Same.f [.d (B8 (Dt.set L)),.d (JB L)] [] k 0 (bl true) []:=fun L hL k=>by
  have h1:L.length<1000000000:=by
   obtain ⟨j,_,rfl⟩:=List.mem_map.1 hL
   have h2:=List.length_filter_le (fun v=>decide (jA l v=j)) (aI l)
   have h3:=jQ hl80 hd3
   omega
  rw [E_ hL,← Lg]
  exact rR L h1 k
 generalize pQ l=R at*
 generalize h.X=X at*
 refine SW.weak id (st1:=⟨[(5,.ptr 15 0),(3,.ptr 0 0),(0,ops l)],tH X d,16⟩) (aK.same (Nat.zero_le _) (by simp [aP,List.lookup,SV.aB,SV.ok,SV.av]) (yB X d (Nat.le_refl _)) (fun y hy=> ?_)) ?_
 ·simp only [tH,List.cons_append,List.nil_append,List.mem_cons,List.not_mem_nil,or_false] at hy
  rcases hy with rfl | rfl | rfl | rfl | rfl <;> rfl
 have t1:=t.c1
 have t2:=t.c2
 have t3:=t.c3
 have t4:=t.c4
 have t5:=t.c5
 have t6:=t.c6
 have t7:=t.c7
 have t8:=t.c8
 have t9:=t.c9
 have tA:=t.cA
 have tB:=t.cB
 have eb:=t.eb
 clear t
 refine SW.seq ?_
 refine SW.g1 [0,1,3,4,5,6,7,8,9,10,11,12,13,14,15,16,18,24,100,104,116] mixed af t1 ?_
 refine SW.seq ?_
 refine SW.g1 [0,1,3,4,5,6,7,8,9,10,11,12,13,14,15,16,18,24,100,104,116] mixed af t2 ?_
 refine SW.seq ?_
 refine SW.g1 [0,1,3,4,5,6,7,8,9,10,11,12,13,14,15,16,18,24,100,104,116] mixed af t3 ?_
 refine SW.weak id (st1:=⟨[(11,.d (.int .i64 e)),(10,.d V),(9,bl b),(8,.d (.int .i64 n)),(7,.d (.int .i64 e)),(6,.d (.int .i64 n)),(5,.ptr 15 0),(3,.ptr 0 0),(0,ops l)],tH X d,16⟩) (aK.same (Nat.zero_le _) (by simp [aP,List.lookup,SV.aB,SV.ok,SV.av]) (yB X d (Nat.le_refl _)) (AS X d)) ?_
 refine SW.seq ?_
 refine SW.g1 [0,1,3,4,5,6,7,8,9,10,11,12,13,14,15,16,18,24,100,104,116] mixed af t4 ?_
 refine SW.seq ?_
 refine SW.g2 [0,1,3,4,5,6,7,8,9,10,11,12,13,14,15,16,18,24,100,104,116] mixed af cL rL ?_
 refine SW.weak id (st1:=⟨[(15,lU R),(14,fK R),(13,bl b),(12,.d W),(11,.d (.int .i64 e)),(10,.d V),(9,bl b),(8,.d (.int .i64 n)),(7,.d (.int .i64 e)),(6,.d (.int .i64 n)),(5,.ptr 15 0),(3,.ptr 0 0),(0,ops l)],tH X d,16⟩) (aK.same (Nat.zero_le _) (by simp [aP,List.lookup,SV.aB,SV.ok,SV.av,lU,fK]) (yB X d (Nat.le_refl _)) (AS X d)) ?_
 refine SW.seq ?_
 have f1:(n != n)=false:=by simp
 have f2:((R.length:Int) != (R.length:Int))=false:=by simp
 refine SW.cut (stM:=⟨[(100,bl false),(15,lU R),(14,fK R),(0,ops l)],tH X d,16⟩) id ?_ ?_
 ·skip
  have cz:=And.intro t5 (And.intro t6 (And.intro t7 (And.intro t8 (And.intro t9 (And.intro tA (And.intro tB True.intro))))))
  simp only [lU,fK]
  rcases b with _ | _
  ·refine SW.gM [0,1,3,4,5,6,7,8,9,10,11,12,13,14,15,16,18,24,100,104,116] mixed (And.intro (f1) (And.intro (f2) (eb))) cz ?_
   exact aK.same (Nat.zero_le _) (by simp [aP,List.lookup,SV.aB,SV.ok,SV.av,lU,fK]) (yB X d (Nat.le_refl _)) (AS X d)
  ·refine SW.gM [0,1,3,4,5,6,7,8,9,10,11,12,13,14,15,16,18,24,100,104,116] mixed (And.intro (f1) (And.intro (f2) (eb))) cz ?_
   exact aK.same (Nat.zero_le _) (by simp [aP,List.lookup,SV.aB,SV.ok,SV.av,lU,fK]) (yB X d (Nat.le_refl _)) (AS X d)
 refine SW.ai rfl (SW.skip ?_)
 refine SW.seq (SW.seq ?_)
 refine SW.g0 [0,1,3,4,5,6,7,8,9,10,11,12,13,14,15,16,18,24,100,104,116] mixed af ?_
 refine SW.block ?_
 refine SW.loop (α:={i:Nat // i≤R.length}) (fun i=>⟨[(16,i64 i.1),(15,lU R),(14,fK R)],[],0⟩) (fun i=>R.length - i.1) ⟨0,Nat.zero_le _⟩ id (aK.same (Nat.zero_le _) (by simp [aP,List.lookup,SV.aB,SV.ok,SV.av,lU,fK]) rfl (fun y hy=>by cases hy)) ?_
 rintro ⟨i,hi⟩
 dsimp only
 by_cases hik:i<R.length
 ·have h1:decide ((i:Int)<R.length)=true:=by simp only [decide_eq_true_eq];omega
  obtain ⟨L,hx⟩:=bq hik
  have e2:IntKind.i64.wrap ((i:Int)+1)=((i+1:Nat):Int):=wrap_i64 _ (by omega)
  have cS:=hRs L (List.mem_of_getElem? hx)
  have g1:(List.map SV.d (R.map fun L=>B8 (Dt.set L)))[i]? =some (.d (B8 (Dt.set L))):=wY SV.d (wY _ hx)
  have g2:(List.map SV.d (R.map JB))[i]? =some (.d (JB L)):=wY SV.d (wY _ hx)
  refine SW.seq (SW.seq ?_)
  simp only [lU,fK]
  refine SW.g0 [0,1,3,4,5,6,7,8,9,10,11,12,13,14,15,16,18,24,100,104,116] mixed (h1) ?_
  refine SW.ak rfl (SW.skip ?_)
  refine SW.seq (SW.block (SW.seq ?_))
  refine SW.g1 [0,1,3,4,5,6,7,8,9,10,11,12,13,14,15,16,18,24,100,104,116] mixed (And.intro (g1) (g2)) cS ?_
  refine SW.ai rfl (SW.skip ?_)
  refine SW.g0 [0,1,3,4,5,6,7,8,9,10,11,12,13,14,15,16,18,24,100,104,116] mixed (e2) ?_
  exact ⟨⟨i+1,by omega⟩,id,by show R.length - (i+1)<R.length - i;omega,aK.same (Nat.zero_le _) (by simp [aP,List.lookup,SV.aB,SV.ok,SV.av,lU,fK]) rfl (fun y hy=>by cases hy)⟩
 ·have h1:decide ((i:Int)<R.length)=false:=by simp only [decide_eq_false_iff_not];omega
  refine SW.seq (SW.seq ?_)
  simp only [lU,fK]
  refine SW.g0 [0,1,3,4,5,6,7,8,9,10,11,12,13,14,15,16,18,24,100,104,116] mixed (h1) ?_
  refine SW.ai rfl (SW.exit ?_)
  refine (?_:Sl.SW _ _ _ _ _ _)
  refine SW.seq ?_
  refine SW.g1 [0,1,3,4,5,6,7,8,9,10,11,12,13,14,15,16,18,24,100,104,116] mixed af rQ ?_
  refine SW.ret ?_
  exact End.mk [] (h4:=rfl)
end
end Go.Proofs.YtaelhkkjgfobhaaGreat
