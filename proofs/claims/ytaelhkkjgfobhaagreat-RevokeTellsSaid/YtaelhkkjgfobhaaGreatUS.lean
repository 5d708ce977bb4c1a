/-
 Revoke: the head's row, and its index.
-/
import Derived.Test.YtaelhkkjgfobhaaGreatU6
import Derived.Test.YtaelhkkjgfobhaaGreatUR
import Derived.Test.YtaelhkkjgfobhaaGreatUO
import Derived.Test.YtaelhkkjgfobhaaGreatUP
import Derived.Test.YtaelhkkjgfobhaaGreatUN
import Derived.Test.YtaelhkkjgfobhaaGreatUE
set_option linter.unusedSectionVars false
set_option linter.unusedVariables false
set_option linter.unusedSimpArgs false
namespace Go.Proofs.YtaelhkkjgfobhaaGreat
open Go.Sl Go.Proofs
section
def q1:ag:=⟨⟨0,1⟩,aJ.zero,1,1,⟨0,1⟩,0,⟨0,0⟩,0,0,0,0,⟨0,0⟩,⟨0,0⟩,0,0,0,.aD⟩
def q2:ag:=⟨⟨0,2⟩,zu 1,2,1,⟨0,1⟩,1,⟨0,1⟩,2,2,0,9,⟨0,0⟩,⟨0,0⟩,0,0,0,.aD⟩
def q3:ag:=⟨⟨0,3⟩,zu 2,3,2,⟨0,1⟩,3,⟨0,2⟩,0,0,0,0,⟨0,0⟩,⟨0,0⟩,0,1,0,.aD⟩
def q4:ag:=⟨⟨0,4⟩,zu 3,4,2,⟨0,1⟩,4,⟨0,2⟩,0,0,0,0,⟨0,3⟩,⟨0,0⟩,0,2,0,.aD⟩
def q5:ag:=⟨⟨1,1⟩,zu 3,4,1,⟨0,1⟩,2,⟨0,1⟩,0,0,0,0,⟨0,2⟩,⟨0,0⟩,0,0,0,.aD⟩
def p1:ag:=q1.nz
def p2:ag:=q2.nz
def p3:ag:=q3.nz
def p4:ag:=q4.nz
def p5:ag:=q5.nz
def mT:List ag:=[p1,p2,p3,p4,p5]
set_option maxRecDepth 100000 in
theorem L_ {P:Program}{env:List (Nat×SV)}{hp:Hp}{k d p q s v w:Nat}{r:List SI}{K:St→List (Bool×List Nat)→Prop}(a b c e g:ag){z:List SV}(hz:z=CF++(CF++(CF++(CF++CF))))
  (ha:env.lookup p=some (.agg a.cells)) (hb:env.lookup q=some (.agg b.cells)) (hc:env.lookup s=some (.agg c.cells)) (he:env.lookup v=some (.agg e.cells)) (hg:env.lookup w=some (.agg g.cells))
  (h:RW P r ⟨(d,ops [a,b,c,e,g])::env,hp,k⟩ fun st' ts=>K st' ((false,[])::ts)):RW P (⟨some d,.lD 43 29 5 z [(0,29,.t p),(29,29,.t q),(58,29,.t s),(87,29,.t v),(116,29,.t w)],none⟩::r) ⟨env,hp,k⟩ K:=by
 subst hz
 refine RW.cons (e:=⟨ops [a,b,c,e,g],[],[],0,((29=29∧0+29≤145∧29=29∧29+29≤145∧29=29∧58+29≤145∧29=29∧87+29≤145∧29=29∧116+29≤145∧True))⟩) (fun dy=>⟨.gp::dy,gW (.inl rfl) ?_⟩) (by show 29=29∧0+29≤145∧29=29∧29+29≤145∧29=29∧58+29≤145∧29=29∧87+29≤145∧29=29∧116+29≤145∧True;decide) ?_
 ·have h1:yF (fun t=>env.lookup t) [(0,29,X.t p),(29,29,X.t q),(58,29,X.t s),(87,29,X.t v),(116,29,X.t w)]=some [(0,29,.agg a.cells),(29,29,.agg b.cells),(58,29,.agg c.cells),(87,29,.agg e.cells),(116,29,.agg g.cells)]:=by
   simp only [yF,ev,ha,hb,hc,he,hg]
  have h2:nh (CF++(CF++(CF++(CF++CF)))) [(0,29,.agg a.cells),(29,29,.agg b.cells),(58,29,.agg c.cells),(87,29,.agg e.cells),(116,29,.agg g.cells)]=some (a.cells++(b.cells++(c.cells++(e.cells++g.cells))),((29=29∧0+29≤145∧29=29∧29+29≤145∧29=29∧58+29≤145∧29=29∧87+29≤145∧29=29∧116+29≤145∧True))):=rfl
  have h3:eE (a.cells++(b.cells++(c.cells++(e.cells++g.cells))))=some ([a,b,c,e,g].flatMap ag.ds):=rfl
  have h4:(a.cells++(b.cells++(c.cells++(e.cells++g.cells)))).all SV.dI=true:=rfl
  simp only [eH,de,h1,h2,h3,h4,if_true,Bool.false_or]
  rfl
 ·exact h
theorem RW.EO {P:Program}{d:Nat}{z:List SV}{parts:List (Nat×Nat×X)}{r:List SI}{K:St→List (Bool×List Nat)→Prop}{env:List (Nat×SV)}{hp:Hp}{k:Nat}(cs:List SV){ps:List (Nat×Nat×SV)}{ob:Prop}(h1:yF (fun t=>env.lookup t) parts=some ps)(h2:nh z ps=some (cs,ob))(bn:ob)
  (h:Go.Sl.RW P r ⟨(d,.agg cs)::env,hp,k⟩ fun st' ts=>K st' ((true,[])::ts)):Go.Sl.RW P (⟨some d,.fD z parts,none⟩::r) ⟨env,hp,k⟩ K:=
 RW.CG (F:=[]) (F':=[]) (nk:=0) (ob:=ob) rfl rfl rfl (.inl rfl) (by simp only [eH,de,h1,h2]) bn rfl h
section
attribute [local irreducible] SW RW aG SC aj an iI rO
set_option maxRecDepth 100000 in
set_option maxHeartbeats 4000000 in
theorem G_:Go.Sl.Pure Tryz.prog law18_row.f [] (ops [q1,q2,q3,q4,q5]):=by
 refine law18_row.enter (by first | rfl | simp [SV.ok,SV.av]) (by first | rfl | simp [Hp.ok,Ob.ok,SV.ok,SV.av,aJ.ah]) (by simp) ?_
 dsimp only [law18_row.s,Co.M,Co.G,Co.J,Co.H,Co.N,Co.F,Co.C,Co.Z,Co.B,Co.b8,Co.ay,Co.bz,Co.i6,Co.z8,Co.bC]
 refine SW.seq ?_
 refine SW.g0 [0,1] mixed af ?_
 refine SW.seq ?_
 refine SW.g0 [0,1] mixed af ?_
 refine SW.seq ?_
 (refine SW.bJ [0,1] mixed ?_;(repeat (first | refine RW.EO q1.cells rfl rfl (by decide) (h:= ?_) | refine RW.EO q2.cells rfl rfl (by decide) (h:= ?_) | refine RW.EO q3.cells rfl rfl (by decide) (h:= ?_) | refine RW.EO q4.cells rfl rfl (by decide) (h:= ?_) | refine RW.EO q5.cells rfl rfl (by decide) (h:= ?_) | refine L_ q1 q2 q3 q4 q5 rfl rfl rfl rfl rfl rfl (h:= ?_) | refine RW.ro af (h:= ?_) | refine RW.skip (h:= ?_) | refine RW.op af (h:= ?_) | refine RW.dw af (h:= ?_) | refine RW.aW (h:= ?_)));refine RW.nil ⟨by kernel_rfl,an.mk (h:= ?_)⟩)
 refine SW.ret ?_
 exact End.mk [] (h4:=⟨rfl,rfl⟩)
end
theorem He (k:Nat):aG Tryz.prog law18_row.f [] [] k 0 (ops mT) []:=by
 have h0:aG Tryz.prog law18_row.f [] [] k 0 (ops [q1,q2,q3,q4,q5]) []:=G_.sc rfl k
 refine SC.KO h0 fun p μ M u hu=> ?_
 rw [Rp.cE] at hu ⊢
 have:=bN.Mm hu
 rw [← CO] at this
 exact this
theorem HZ:(aA mT).at_=[(0,⟨0,1⟩,hc1),(1,⟨0,2⟩,Fi)]:=by kernel_rfl
theorem H6:mZ (aA mT).at_ (MM.get (aA mT).at_ ⟨0,1⟩) [hc1]:=by
 rw [HZ]
 exact .root hc1 (by decide)
theorem EP:mZ (aA mT).at_ (MM.get (aA mT).at_ ⟨0,2⟩) [Fi,hc1]:=by
 rw [HZ]
 exact .more Fi _ (by decide) (.root hc1 (by decide))
theorem K1:g_ mT p1=0:=by kernel_rfl
theorem K2:g_ mT p2=0:=by kernel_rfl
theorem K3:g_ mT p3=0:=by kernel_rfl
theorem K4:g_ mT p4=0:=by kernel_rfl
theorem K5:g_ mT p5=0:=Gx EP (by kernel_rfl)
theorem uw:∀ o,o∈mT→o.kind<256∧o.nw∧o.cl.length≤1048576:=fun o ho=>by
 simp only [mT,List.mem_cons,List.not_mem_nil,or_false] at ho
 rcases ho with rfl | rfl | rfl | rfl | rfl
 all_goals exact ⟨by decide,L3 rfl,by decide⟩
end
section
theorem ux (l:List Dt):(Dt.set l).Nodup:=(Dt.sorted_perm _).nodup_iff.2 (wI l).keys
section
variable {l:List ag} {S:Sh} (h:cq l S) (hl:l.length≤80)
include h
theorem cq.Hf {d:Dt}(hg:S.good d=true):∃ o,aT l d=some o∧g_ l o=0∧S.op d=o∧o.dot=d∧d∈Dt.set (l.map (·.dot)):=by
 rw [h.good] at hg
 cases hf:aT l d with
 | none=>rw [hf] at hg;cases hg
 | some o=>
  rw [hf] at hg
  have hd:=gi hf
  refine ⟨o,rfl,of_decide_eq_true hg,?_,hd,?_⟩
  ·rw [h.base.op,dO hf]
  ·rw [Dt.mem_set]
   exact List.mem_map.2 ⟨o,rC hf,hd⟩
theorem cq.wR {d:Dt}:(d∈Dt.set (l.map (·.dot))∧S.good d=true)↔S.good d=true:=⟨fun h=>h.2,fun hg=>⟨(h.Hf hg).elim fun _ h=>h.2.2.2.2,hg⟩⟩
noncomputable abbrev cq.X (_:cq l S):Ix:=uH S (Dt.set (l.map (·.dot)))
theorem cq.Fl:Jp S (Dt.set (l.map (·.dot))) h.X:=Ex _ _
theorem cq.rP (d:Dt):MM.has h.X.ops d=S.good d:=by
 unfold MM.has
 rw [h.Fl.ops]
 simp only [h.wR]
 cases S.good d <;> rfl
theorem cq.K6 {d:Dt}(hg:S.good d=true):h.X.op d=S.op d:=by
 unfold Ix.op
 rw [h.Fl.ops,if_pos (h.wR.2 hg)];rfl
theorem cq.BI {d:Dt}(hg:S.good d=true):h.X.kI d=S.kI (S.op d):=by
 unfold Ix.kI
 rw [h.Fl.ch,if_pos (h.wR.2 hg)];rfl
theorem cq.H8 {d:Dt}(hg:S.good d=false):h.X.kI d=[]:=by
 unfold Ix.kI
 rw [h.Fl.ch,if_neg (fun hh=>by rw [hg] at hh;cases hh.2)];rfl
theorem cq.Hg (c:Dt):h.X.nu c=(Dt.set (l.map (·.dot))).filter (S.rv c):=h.Fl.jP c
theorem cq.Hh (o:ag):(S.kI o).length≤9:=by
 unfold Sh.kI
 split
 ·simp
 ·obtain ⟨L,h1,h2⟩:=h.base.uG o.aV
  rw [List.length_map,iD h1];exact h2
include hl
theorem cq.jX:(Dt.set (l.map (·.dot))).length≤80:=by
 have:=(ux (l.map (·.dot))).length_le_of_subset (l₂:=l.map (·.dot)) fun d hd=>Dt.mem_set.1 hd
 simpa using Nat.le_trans this (by simpa using hl)
theorem cq.small:h.X.small:=by
 have hd:=h.jX hl
 refine ⟨fun d=> ?_,fun c=> ?_,?_,h.Fl.wo⟩
 ·cases hg:S.good d with
  | false=>rw [h.H8 hg];simp
  | true=>rw [h.BI hg];have:=h.Hh (S.op d);omega
 ·rw [h.Hg]
  have:=List.length_filter_le (S.rv c) (Dt.set (l.map (·.dot)))
  omega
 ·have:=h.Fl.wo.keys.length_le_of_subset (l₂:=Dt.set (l.map (·.dot))) fun d hd'=>by
   rw [← MM.iA,h.rP] at hd'
   exact (h.wR.2 hd').1
  have e:(MM.keys h.X.ops).length=h.X.ops.length:=by simp [MM.keys]
  omega
omit hl
theorem cq.BJ {d:Dt}(hg:S.good d=true):h.X.pM (S.op d)=S.pM (Dt.set (l.map (·.dot))) (S.op d):=by
 obtain ⟨o,_,_,e1,e2,_⟩:=h.Hf hg
 unfold Ix.pM Sh.pM
 rw [e1,e2,h.BI hg,e1]
 congr 1
 funext c
 rw [h.Hg]
 refine List.filter_congr fun t ht=> ?_
 have:S.good t=true:=by
  have:=(List.mem_filter.1 ht).2
  unfold Sh.rv at this
  rw [Bool.and_eq_true] at this
  exact this.1
 rw [h.K6 this]
theorem cq.wS {e v:Dt}:v∈h.X.zJ e↔S.good v=true∧e∈S.pM (Dt.set (l.map (·.dot))) (S.op v):=by
 unfold Ix.zJ
 rw [List.mem_map]
 simp only [Ix.AN]
 constructor
 ·rintro ⟨o,⟨⟨x,hx,rfl⟩,he⟩,rfl⟩
  have hk:=oD h.Fl.wo.keys hx
  rw [h.Fl.ops] at hk
  split at hk
  ·rename_i hc
   injection hk with hk
   obtain ⟨o',_,_,e1,e2,_⟩:=h.Hf hc.2
   have e3:x.2.2.dot=x.2.1:=by rw [← hk,e1,e2]
   rw [e3]
   refine ⟨hc.2,?_⟩
   rw [← h.BJ hc.2,hk];exact he
  ·cases hk
 ·rintro ⟨hg,he⟩
  obtain ⟨o,_,_,e1,e2,_⟩:=h.Hf hg
  have h2:MM.get h.X.ops v=some (S.op v):=by rw [h.Fl.ops,if_pos (h.wR.2 hg)]
  obtain ⟨x,hx,a1,a2⟩:=get_mem h2
  exact ⟨S.op v,⟨⟨x,hx,a2⟩,by rw [h.BJ hg];exact he⟩,by rw [e1,e2]⟩
end
theorem Dt.oI {a b:List Dt}(h:∀ v,v∈a↔v∈b):Dt.set a=Dt.set b:=Dt.gj (Dt.fu _) (Dt.fu _) fun v=>by rw [Dt.mem_set,Dt.mem_set,h]
theorem AP:Dt.set (mT.map (·.dot))=[⟨0,1⟩,⟨0,2⟩,⟨0,3⟩,⟨0,4⟩,⟨1,1⟩]:=(Dt.jI _).symm.trans (by kernel_rfl)
section
variable {S:Sh} (h:cq mT S)
include h
theorem zK:S.op ⟨0,1⟩=p1:=by rw [h.base.op];exact dO (by kernel_rfl)
theorem wT:S.op ⟨0,2⟩=p2:=by rw [h.base.op];exact dO (by kernel_rfl)
theorem zL:S.op ⟨0,3⟩=p3:=by rw [h.base.op];exact dO (by kernel_rfl)
theorem wU:S.op ⟨0,4⟩=p4:=by rw [h.base.op];exact dO (by kernel_rfl)
theorem uy:S.op ⟨1,1⟩=p5:=by rw [h.base.op];exact dO (by kernel_rfl)
theorem H9:S.good ⟨0,1⟩=true:=by rw [h.x_ (o:=p1) (by kernel_rfl),K1];rfl
theorem yz:S.good ⟨0,2⟩=true:=by rw [h.x_ (o:=p2) (by kernel_rfl),K2];rfl
theorem ER:S.good ⟨0,3⟩=true:=by rw [h.x_ (o:=p3) (by kernel_rfl),K3];rfl
theorem vK:S.good ⟨0,4⟩=true:=by rw [h.x_ (o:=p4) (by kernel_rfl),K4];rfl
theorem H_:S.good ⟨1,1⟩=true:=by rw [h.x_ (o:=p5) (by kernel_rfl),K5];rfl
theorem K7:S.good ⟨0,9⟩=false:=h.KN (by kernel_rfl)
theorem Ia:S.kI p1=[]:=by unfold Sh.kI;rw [if_pos (by decide)]
theorem ES:S.kI p2=[⟨0,1⟩]:=by unfold Sh.kI;rw [if_neg (by decide),h.base.tr];exact congrArg (List.map (·.dot)) (iD H6)
theorem K8:S.kI p3=[⟨0,2⟩,⟨0,1⟩]:=by unfold Sh.kI;rw [if_neg (by decide),h.base.tr];exact congrArg (List.map (·.dot)) (iD EP)
theorem ET:S.kI p4=[⟨0,2⟩,⟨0,1⟩]:=by unfold Sh.kI;rw [if_neg (by decide),h.base.tr];exact congrArg (List.map (·.dot)) (iD EP)
theorem K9:S.kI p5=[⟨0,1⟩]:=by unfold Sh.kI;rw [if_neg (by decide),h.base.tr];exact congrArg (List.map (·.dot)) (iD H6)
theorem Ib {a d:Dt}(hd:d∈Dt.set (mT.map (·.dot)))(hk:S.good d=true∧(S.op d).kind=2∧(S.op d).at_=a):d=⟨1,1⟩∧a=⟨0,2⟩:=by
 rw [AP] at hd
 simp only [List.mem_cons,List.not_mem_nil,or_false] at hd
 obtain ⟨_,h1,h2⟩:=hk
 rcases hd with rfl | rfl | rfl | rfl | rfl
 ·rw [zK h] at h1;exact absurd h1 (by decide)
 ·rw [wT h] at h1;exact absurd h1 (by decide)
 ·rw [zL h] at h1;exact absurd h1 (by decide)
 ·rw [wU h] at h1;exact absurd h1 (by decide)
 ·rw [uy h] at h2;exact ⟨rfl,h2.symm⟩
theorem wV (o:ag)(v:Dt):v∈S.pM (Dt.set (mT.map (·.dot))) o↔v=⟨1,1⟩∧(⟨0,2⟩:Dt)∈S.kI o∧o.before p5=false:=by
 rw [Sh.sP]
 constructor
 ·rintro ⟨h1,h2,h3,h4,h5⟩
  obtain ⟨rfl,ha⟩:=Ib h h1 ⟨h2,h3,rfl⟩
  rw [uy h] at h4 h5
  exact ⟨rfl,h4,h5⟩
 ·rintro ⟨rfl,h1,h2⟩
  rw [uy h]
  exact ⟨by rw [AP];decide,H_ h,by decide,h1,h2⟩
theorem K_:Dt.set (h.X.pM (h.X.op ⟨0,4⟩))=[⟨1,1⟩]:=by
 rw [h.K6 (vK h),h.BJ (vK h),wU h]
 refine (Dt.oI (b:=[⟨1,1⟩]) fun v=> ?_).trans ((Dt.jI _).symm.trans (by kernel_rfl))
 rw [wV h,ET h]
 simp [show p4.before p5=false by kernel_rfl]
theorem La:Dt.set (h.X.pM (h.X.op ⟨0,3⟩))=[]:=by
 rw [h.K6 (ER h),h.BJ (ER h),zL h]
 refine (Dt.oI (b:=[]) fun v=> ?_).trans ((Dt.jI _).symm.trans (by kernel_rfl))
 rw [wV h,K8 h]
 simp [show p3.before p5=true by kernel_rfl]
theorem Lb:Dt.set (h.X.pM (h.X.op ⟨0,2⟩))=[]:=by
 rw [h.K6 (yz h),h.BJ (yz h),wT h]
 refine (Dt.oI (b:=[]) fun v=> ?_).trans ((Dt.jI _).symm.trans (by kernel_rfl))
 rw [wV h,ES h]
 simp
theorem Lc:Dt.set (h.X.nu ⟨0,2⟩)=[⟨1,1⟩]:=by
 rw [h.Hg]
 refine (Dt.oI (b:=[⟨1,1⟩]) fun v=> ?_).trans ((Dt.jI _).symm.trans (by kernel_rfl))
 rw [List.mem_filter,List.mem_singleton]
 unfold Sh.rv
 simp only [Bool.and_eq_true,decide_eq_true_eq]
 constructor
 ·rintro ⟨h1,h2,h3,h4⟩
  exact (Ib h h1 ⟨h2,h3,h4⟩).1
 ·rintro rfl
  rw [uy h]
  exact ⟨by rw [AP];decide,H_ h,by decide,by decide⟩
theorem Ld:Dt.set (h.X.zJ ⟨1,1⟩)=[⟨0,4⟩]:=by
 refine (Dt.oI (b:=[⟨0,4⟩]) fun v=> ?_).trans ((Dt.jI _).symm.trans (by kernel_rfl))
 rw [h.wS,List.mem_singleton,wV h]
 constructor
 ·rintro ⟨hg,_,hc,hb⟩
  have hd:=(h.wR.2 hg).1
  rw [AP] at hd
  simp only [List.mem_cons,List.not_mem_nil,or_false] at hd
  rcases hd with rfl | rfl | rfl | rfl | rfl
  ·rw [zK h,Ia h] at hc;cases hc
  ·rw [wT h,ES h] at hc;exact absurd hc (by decide)
  ·rw [zL h] at hb;exact absurd hb (by rw [show p3.before p5=true by kernel_rfl];decide)
  ·rfl
  ·rw [uy h,K9 h] at hc;exact absurd hc (by decide)
 ·rintro rfl
  rw [wU h,ET h]
  exact ⟨vK h,rfl,by decide,by kernel_rfl⟩
end
end
section
attribute [local irreducible] SW RW aG SC aj an iI rO
theorem sQ (S:Sh)(n:Nat):(lk S.jo n).isSome=true↔n∈[10,7,8,9,2,0,1]:=by
 rw [Option.isSome_iff_ne_none]
 constructor
 ·intro hn
  obtain ⟨ob,ho⟩:=Option.ne_none_iff_exists'.1 hn
  have:=(List.mem_map (f:=fun x:Nat×Ob=>x.1)).2 ⟨(n,ob),gH ho,rfl⟩
  simpa using this
 ·intro hn
  simp only [List.mem_cons,List.not_mem_nil,or_false] at hn
  rcases hn with rfl | rfl | rfl | rfl | rfl | rfl | rfl <;> simp [aa]
theorem EU (S:Sh)(X:Ix)(q:Nat→Bool)(h:∀ n,n∈[0,1,2,7,8,9,10,11,12,13,14]→q n=true):(hX S X).ok q=true:=by
 have a:=fun n hn=>h n hn
 refine au (h 14 (by decide)) ?_ (au (h 13 (by decide)) (dH _ _) (au (h 12 (by decide)) (dH _ _) (au (h 11 (by decide)) (bu _ _) (au (h 10 (by decide)) ?_ (au (h 7 (by decide)) (bu _ _) (au (h 8 (by decide)) (bQ _ _) (au (h 9 (by decide)) (nN _ _) (au (h 2 (by decide)) ?_ (au (h 0 (by decide)) (jH _ _) (au (h 1 (by decide)) (bu _ _) rfl))))))))))
 ·simp [Ob.ok,SV.av,SV.ok,h 11,h 12,h 13]
 ·simp [Ob.ok,SV.av,SV.ok,h 2,h 7,h 8,h 9]
 ·simp [Ob.ok,SV.av,SV.ok,h 0,h 1]
theorem AQ (S:Sh)(q:Nat→Bool)(h:∀ n,n∈[0,1,2,7,8,9,10]→q n=true):S.jo.ok q=true:=by
 refine au (h 10 (by decide)) ?_ (au (h 7 (by decide)) (bu _ _) (au (h 8 (by decide)) (bQ _ _) (au (h 9 (by decide)) (nN _ _) (au (h 2 (by decide)) ?_ (au (h 0 (by decide)) (jH _ _) (au (h 1 (by decide)) (bu _ _) rfl))))))
 ·simp [Ob.ok,SV.av,SV.ok,h 2,h 7,h 8,h 9]
 ·simp [Ob.ok,SV.av,SV.ok,h 0,h 1]
theorem cq.Ma {l:List ag}{S:Sh}(h:cq l S)(hl:l.length≤80)(hs:m_ S):aG Tryz.prog revoke_New.f [.ptr 10 0] S.jo 11 4 (.ptr 14 0) (hX S h.X):=by
 unfold aG
 refine (AH S _ h.base.uG hs (by have:=h.jX hl;omega) (h.Eu hl)).here (fun n=>(lk S.jo n).isSome) (fun n hn=>Option.isSome_iff_ne_none.1 hn) (by simp [SV.av,SV.ok,aa]) (AQ S _ fun n hn=>(sQ S n).2 (by revert hn;simp;omega)) ?_
 rintro r F' ⟨rfl,rfl⟩ _ _
 refine ⟨by simp [SV.ok],EU S _ _ fun n hn=> ?_⟩
 rw [Bool.or_eq_true]
 by_cases jo:n∈[10,7,8,9,2,0,1]
 ·exact .inl ((sQ S n).2 jo)
 ·refine .inr ?_
  simp at hn jo ⊢
  omega
theorem BK:Go.Sl.Pure Tryz.prog shape_Shape_none.f [.d .jB] (bl true):=by
 refine shape_Shape_none.enter (by first | rfl | simp [SV.ok,SV.av]) (by first | rfl | simp [Hp.ok,Ob.ok,SV.ok,SV.av,aJ.ah]) (by simp) ?_
 dsimp only [shape_Shape_none.s,Co.M,Co.G,Co.J,Co.H,Co.N,Co.F,Co.C,Co.Z,Co.B,Co.b8,Co.ay,Co.bz,Co.i6,Co.z8,Co.bC]
 (repeat (first | refine SW.seq ?_ | refine SW.block ?_ | refine SW.g0 [0,2] mixed af ?_ | refine SW.skip ?_ | refine SW.exit ?_ | refine SW.ret ?_ | refine SW.ak rfl ?_ | refine SW.ai rfl ?_))
 exact End.mk [] (h4:=⟨rfl,rfl⟩)
theorem BL:Go.Sl.Pure Tryz.prog shape_Shape_Tree.f [.d .jB] (.d .jB):=by
 refine shape_Shape_Tree.enter (by first | rfl | simp [SV.ok,SV.av]) (by first | rfl | simp [Hp.ok,Ob.ok,SV.ok,SV.av,aJ.ah]) (by simp) ?_
 dsimp only [shape_Shape_Tree.s,Co.M,Co.G,Co.J,Co.H,Co.N,Co.F,Co.C,Co.Z,Co.B,Co.b8,Co.ay,Co.bz,Co.i6,Co.z8,Co.bC]
 (repeat (first | refine SW.seq ?_ | refine SW.block ?_ | refine SW.g1 [0,2,4] mixed af (BK.sc rfl) ?_ | refine SW.skip ?_ | refine SW.exit ?_ | refine SW.ret ?_ | refine SW.ak rfl ?_ | refine SW.ai rfl ?_))
 exact End.mk [] (h4:=⟨rfl,rfl⟩)
theorem EV:Go.Sl.Pure Tryz.prog revoke_New.f [.d .jB] (.d .jB):=by
 refine revoke_New.enter (by first | rfl | simp [SV.ok,SV.av]) (by first | rfl | simp [Hp.ok,Ob.ok,SV.ok,SV.av,aJ.ah]) (by simp) ?_
 dsimp only [revoke_New.s,Co.M,Co.G,Co.J,Co.H,Co.N,Co.F,Co.C,Co.Z,Co.B,Co.b8,Co.ay,Co.bz,Co.i6,Co.z8,Co.bC]
 (repeat (first | refine SW.seq ?_ | refine SW.block ?_ | refine SW.g1 [0,2,3,5,6,10,18,19,20,21,27,55,63] mixed af (BL.sc rfl) ?_ | refine SW.skip ?_ | refine SW.exit ?_ | refine SW.ret ?_ | refine SW.ak rfl ?_ | refine SW.ai rfl ?_))
 exact End.mk [] (h4:=⟨rfl,rfl⟩)
theorem EW (k:Nat):aG Tryz.prog revoke_New.f [.d .jB] [] k 0 (.d .jB) []:=EV.sc rfl k
section
variable {S:Sh} (h:cq mT S)
include h
theorem iH:h.X.small:=h.small (by decide)
theorem MI (k:Nat):aG Tryz.prog revoke_Index_Threats.f [.ptr 14 0,.agg (Dt.mk 0 4).cells] h.X.qC k (9+iI 4) (.cN [aU [⟨1,1⟩],.d (.int .i64 0)]) h.X.qC:=by
 have:=wQ h.X (iH h) ⟨0,4⟩ k
 unfold fV at this
 rw [h.rP,vK h,K_ h] at this
 exact this
theorem MJ (k:Nat):aG Tryz.prog revoke_Index_Threats.f [.ptr 14 0,.agg (Dt.mk 0 3).cells] h.X.qC k (9+iI 4) (.cN [aU [],.d (.int .i64 0)]) h.X.qC:=by
 have:=wQ h.X (iH h) ⟨0,3⟩ k
 unfold fV at this
 rw [h.rP,ER h,La h] at this
 exact this
theorem MK (k:Nat):aG Tryz.prog revoke_Index_Threats.f [.ptr 14 0,.agg (Dt.mk 0 2).cells] h.X.qC k (9+iI 4) (.cN [aU [],.d (.int .i64 0)]) h.X.qC:=by
 have:=wQ h.X (iH h) ⟨0,2⟩ k
 unfold fV at this
 rw [h.rP,yz h,Lb h] at this
 exact this
theorem ML (k:Nat):aG Tryz.prog revoke_Index_Level.f [.ptr 14 0,.agg (Dt.mk 0 1).cells] h.X.qC k 2 (.cN [.d (.int .i64 (-1)),.d (.int .i64 0)]) h.X.qC:=by
 have:=oH h.X (iH h) ⟨0,1⟩ k
 unfold eu at this
 rw [h.rP,H9 h,h.BI (H9 h),zK h,Ia h] at this
 exact this
theorem MN (k:Nat):aG Tryz.prog revoke_Index_Level.f [.ptr 14 0,.agg (Dt.mk 0 2).cells] h.X.qC k 2 (.cN [.d (.int .i64 0),.d (.int .i64 0)]) h.X.qC:=by
 have:=oH h.X (iH h) ⟨0,2⟩ k
 unfold eu at this
 rw [h.rP,yz h,h.BI (yz h),wT h,ES h] at this
 exact this
theorem MO (k:Nat):aG Tryz.prog revoke_Index_Level.f [.ptr 14 0,.agg (Dt.mk 0 4).cells] h.X.qC k 2 (.cN [.d (.int .i64 1),.d (.int .i64 0)]) h.X.qC:=by
 have:=oH h.X (iH h) ⟨0,4⟩ k
 unfold eu at this
 rw [h.rP,vK h,h.BI (vK h),wU h,ET h] at this
 exact this
theorem MP (k:Nat):aG Tryz.prog revoke_Index_Level.f [.ptr 14 0,.agg (Dt.mk 0 9).cells] h.X.qC k 2 (.cN [.d (.int .i64 0),.d (.int .i64 7)]) h.X.qC:=by
 have:=oH h.X (iH h) ⟨0,9⟩ k
 unfold eu at this
 rw [h.rP,K7 h] at this
 exact this
theorem MQ (k:Nat):aG Tryz.prog revoke_Index_Revokes.f [.ptr 14 0,.agg (Dt.mk 0 2).cells] h.X.qC k 1 (aU [⟨1,1⟩]) h.X.qC:=by
 have:=G3 h.X (iH h) ⟨0,2⟩ k
 rw [Lc h] at this
 exact this
theorem MR (k:Nat):aG Tryz.prog revoke_Index_Threatened.f [.ptr 14 0,.agg (Dt.mk 1 1).cells] h.X.qC k (6+rO 4) (aU [⟨0,4⟩]) h.X.qC:=by
 have:=G9 h.X (iH h) ⟨1,1⟩ k
 rw [Ld h] at this
 exact this
end
end
section
attribute [local irreducible] SW RW aG SC aj an iI rO
theorem Mb (k:Nat):aG Tryz.prog ref03_Same.f [aU [⟨1,1⟩],.d (.sl 1 (Dt.mk 1 1).ds)] [] k 0 (.d (.bool true)) []:=wg [⟨1,1⟩] [⟨1,1⟩] (by decide) (by decide) k
theorem Mc (k:Nat):aG Tryz.prog ref03_Same.f [aU [⟨0,4⟩],.d (.sl 1 (Dt.mk 0 4).ds)] [] k 0 (.d (.bool true)) []:=wg [⟨0,4⟩] [⟨0,4⟩] (by decide) (by decide) k
theorem e9:cR (Dt.mk 0 0).cells 1 [.d (.int .u32 9)]=(Dt.mk 0 9).cells:=rfl
theorem e1:cR (Dt.mk 0 0).cells 1 [.d (.int .u32 1)]=(Dt.mk 0 1).cells:=rfl
theorem e2:cR (Dt.mk 0 0).cells 1 [.d (.int .u32 2)]=(Dt.mk 0 2).cells:=rfl
theorem Lw:cR (cR (Dt.mk 0 0).cells 0 [.d (.int .u8 1)]) 1 [.d (.int .u32 1)]=(Dt.mk 1 1).cells:=rfl
set_option maxHeartbeats 16000000 in
theorem BM:Go.Sl.Pure Tryz.prog law18_head.f [] (bl true):=by
 refine law18_head.enter (by first | rfl | simp [SV.ok,SV.av]) (by first | rfl | simp [Hp.ok,Ob.ok,SV.ok,SV.av,aJ.ah]) (by simp) ?_
 dsimp only [law18_head.s,Co.M,Co.G,Co.J,Co.H,Co.N,Co.F,Co.C,Co.Z,Co.B,Co.b8,Co.ay,Co.bz,Co.i6,Co.z8,Co.bC]
 refine SW.seq ?_
 refine SW.g0 [0,1,2,3,4,5,6,7,8,10,12,15,16,21] mixed af ?_
 refine SW.seq (SW.y9 ?_)
 refine bB.qj af (He _) (h:= ?_)
 refine bB.aY (Ja mT (by decide) (fun o ho=>⟨(uw o ho).1,(uw o ho).2.1⟩)) (HSub.nil _) (h:= ?_)
 rintro _ _ ⟨S,h,rfl,rfl⟩
 simp only [bL,cZ,c_,fO,gq,bS,lk,List.lookup,Nat.reduceBEq,BEq.rfl,beq_self_eq_true,if_true,if_false,reduceIte,Nat.reduceEqDiff,Bool.false_eq_true,Option.isSome_some,Option.isSome_none,Nat.reduceAdd]
 refine bB.qj af (h.Ma (by decide) (h.short uw)) (h:= ?_)
 (repeat (first | refine bB.op af (h:= ?_) | refine bB.dw af (h:= ?_) | refine bB.skip (h:= ?_)))
 refine bB.nil ?_
 refine SW.seq (SW.seq ?_)
 refine SW.g0 [0,1,2,3,4,5,6,7,8,10,12,15,16,21] mixed af ?_
 refine SW.ai rfl (SW.skip ?_)
 have cz:=And.intro (MI h) (And.intro (MJ h) (And.intro (MK h) (And.intro (ML h) (And.intro (MN h) (And.intro (MO h) (And.intro (MP h) (And.intro (MQ h) (And.intro (MR h) (And.intro Mb (And.intro Mc (And.intro EW True.intro)))))))))))
 refine SW.seq ?_
 refine SW.gM [0,1,2,3,4,5,6,7,8,10,12,15,16,21] mixed (d4) cz ?_
 refine SW.seq ?_
 refine SW.gM [0,1,2,3,4,5,6,7,8,10,12,15,16,21] mixed (d3) cz ?_
 refine SW.seq ?_
 refine SW.gM [0,1,2,3,4,5,6,7,8,10,12,15,16,21] mixed (e2) cz ?_
 refine SW.seq ?_
 refine SW.gM [0,1,2,3,4,5,6,7,8,10,12,15,16,21] mixed (e1) cz ?_
 refine SW.seq ?_
 refine SW.gM [0,1,2,3,4,5,6,7,8,10,12,15,16,21] mixed (e2) cz ?_
 refine SW.seq ?_
 refine SW.gM [0,1,2,3,4,5,6,7,8,10,12,15,16,21] mixed (d4) cz ?_
 refine SW.seq ?_
 refine SW.gM [0,1,2,3,4,5,6,7,8,10,12,15,16,21] mixed (e9) cz ?_
 refine SW.seq ?_
 refine SW.gM [0,1,2,3,4,5,6,7,8,10,12,15,16,21] mixed (Lw) cz ?_
 refine SW.seq ?_
 refine SW.gM [0,1,2,3,4,5,6,7,8,10,12,15,16,21] mixed (And.intro (d4) (And.intro (e2) (Lw))) cz ?_
 refine SW.ret ?_
 exact End.mk [] (h4:=⟨rfl,rfl⟩)
theorem rQ (k:Nat):aG Tryz.prog law18_head.f [] [] k 0 (.d (.bool true)) []:=BM.sc rfl k
end
section
theorem Dt.EX (l:List Dt):(Dt.set l).length≤l.length:=(ux l).length_le_of_subset fun d hd=>Dt.mem_set.1 hd
section
variable {l:List ag} {S:Sh} (h:cq l S) (hl:l.length≤80)
include h
include hl
end
end
section
theorem Jz {P:Program}{f:FuncId}{args:List SV}{F:Hp}{k nk:Nat}{Q:SV→Hp→Prop}(q:Nat→Bool)(h:SB P f args F k nk Q)(HL:∀ n,q n=true→lk F n≠none)(B6:F.ok q=true)
  (hQ:∀ r F',Q r F'→r.ok (fun n=>q n || (decide (k≤n) && decide (n<k+nk)))=true∧F'.ok (fun n=>q n || (decide (k≤n) && decide (n<k+nk)))=true)
  (ρ:Nat→Nat) (k':Nat) (hinj:∀ n m,n<k→m<k→ρ n=ρ m→n=m) (hlt:∀ n,n<k→ρ n<k') (hnew:∀ i,i<nk→ρ (k+i)=k'+i):
  SC P f (SV.aX ρ args) (F.aB ρ) k' nk fun r F'=>∃ r0 F0,Q r0 F0∧r=r0.aB ρ∧F'=F0.aB ρ:=by
 refine ⟨h.1,fun p μ M w vals hp hr hS=> ?_⟩
 have hqP:∀ n,q n=true→p (ρ n):=fun n hn=>by
  obtain ⟨ob,ho⟩:=Option.ne_none_iff_exists'.1 (HL n hn)
  have hl:lk (F.aB ρ) (ρ n)=(lk F n).map (Ob.aB ρ):=yP h.2.2.1 (fun a b ha hb=>hinj a b (by simpa using ha) (by simpa using hb)) (by simpa using (Hp.dJ h.2.2.1 ho).1)
  rw [ho] at hl
  exact (hS.obs _ _ hl).1
 obtain ⟨h1,h2,h3⟩:=z_ (Q:=fun r F'=>Q r F') h.2.1 h.2.2.1 ρ k' hinj hnew (p:=fun m=>p m∨∃ n,n<k∧ρ n=m) (fun n hn hh=>by
  rcases hh with hh | ⟨m,hm,rfl⟩
  ·exact hp n hn hh
  ·have:=hlt m hm;omega) (fun n hn=> .inr ⟨n,hn,rfl⟩) (hr.more (fun _ h=> .inl h) (fun _ _=>rfl) (Mem.le_refl _)) (hS.more fun _ h=> .inl h)
 refine (h.2.2.2 _ M w vals h1 h2).mono fun e w' hx=> ?_
 obtain ⟨r,F',bh,M',u,rfl,⟨r0,F0,hq0,rfl,rfl⟩,a,b,c⟩:=h3 e w' hx
 obtain ⟨k1,k2⟩:=hQ r0 F0 hq0
 have hq2:∀ n,(q n || (decide (k≤n) && decide (n<k+nk)))=true→(p (ρ n)∨(k'≤ρ n∧ρ n<k'+nk)):=fun n hn=>by
  simp only [Bool.or_eq_true,Bool.and_eq_true,decide_eq_true_eq] at hn
  rcases hn with hn | hn
  ·exact .inl (hqP n hn)
  ·have:=hnew (n - k) (by omega)
   rw [show k+(n - k)=n by omega] at this
   exact .inr (by omega)
 refine ⟨_,_,bh,M',u,rfl,⟨r0,F0,hq0,rfl,rfl⟩,Rp.back k1 hq2 (fun _ _=>rfl) (Rp.to (p:=fun _=>True) (ν:=fun n=>bh (ρ n)) k1 (fun _ _=>trivial) (fun _ _=>rfl) a.rep).rep,⟨b.mem,fun m ob hm=> ?_,b.inj⟩,c⟩
 obtain ⟨_,b1,b2⟩:=b.obs m ob hm
 obtain ⟨n,jD,hmem,rfl,rfl⟩:=rZ hm
 have hn:=List.all_eq_true.1 k2 _ hmem
 simp only [Bool.and_eq_true] at hn
 have b3:bU (fun _=>True) (fun n=>bh (ρ n)) M' w' (bh (ρ n)) jD:=bU.to hn.2 (fun _ _=>trivial) (fun _ _=>rfl) b1
 exact ⟨hq2 n hn.1,bU.back hn.2 hq2 (fun _ _=>rfl) b3,b2⟩
theorem cq.Le {l:List ag}{S:Sh}(h:cq l S)(hl:l.length≤80)(hs:m_ S)(p:Nat):aG Tryz.prog revoke_New.f [.ptr (10+p) 0] (Hp.aB (· +p) S.jo) (11+p) 4 (.ptr (14+p) 0) (Hp.aB (· +p) (hX S h.X)):=by
 have:=Jz (fun n=>(lk S.jo n).isSome) (AH S _ h.base.uG hs (by have:=h.jX hl;omega) (h.Eu hl)) (fun n hn=>Option.isSome_iff_ne_none.1 hn) (AQ S _ fun n hn=>(sQ S n).2 (by revert hn;simp;omega)) (by
  rintro r F' ⟨rfl,rfl⟩
  refine ⟨by simp [SV.ok],EU S _ _ fun n hn=> ?_⟩
  rw [Bool.or_eq_true]
  by_cases jo:n∈[10,7,8,9,2,0,1]
  ·exact .inl ((sQ S n).2 jo)
  ·refine .inr ?_
   simp at hn jo ⊢
   omega) (· +p) (11+p) (fun n m _ _ e=>by have e:n+p=m+p:=e;omega) (fun n hn=>by show n+p<11+p;omega) (fun i _=>by show 11+i+p=11+p+i;omega)
 unfold aG
 refine SC.mono (show SC Tryz.prog revoke_New.f [.ptr (10+p) 0] (Hp.aB (· +p) S.jo) (11+p) 4 _ from this) ?_
 rintro r F ⟨r0,F0,⟨rfl,rfl⟩,rfl,rfl⟩
 exact ⟨rfl,rfl⟩
end
end Go.Proofs.YtaelhkkjgfobhaaGreat
