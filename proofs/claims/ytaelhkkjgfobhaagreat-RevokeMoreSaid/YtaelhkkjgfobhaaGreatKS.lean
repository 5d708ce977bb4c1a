/-
 Revoke: the head's row, and its index.
-/
import Derived.Test.YtaelhkkjgfobhaaGreatK6
import Derived.Test.YtaelhkkjgfobhaaGreatKR
import Derived.Test.YtaelhkkjgfobhaaGreatKO
import Derived.Test.YtaelhkkjgfobhaaGreatKP
import Derived.Test.YtaelhkkjgfobhaaGreatKN
import Derived.Test.YtaelhkkjgfobhaaGreatKE
import Derived.Test.YtaelhkkjgfobhaaGreatKQ
set_option linter.unusedSectionVars false
set_option linter.unusedVariables false
set_option linter.unusedSimpArgs false
namespace Go.Proofs.YtaelhkkjgfobhaaGreat
open Go.Sl Go.Proofs
section
def q1:ag:=⟨⟨0,1⟩,aL.zero,1,1,⟨0,1⟩,0,⟨0,0⟩,0,0,0,0,⟨0,0⟩,⟨0,0⟩,0,0,0,.aU⟩
def q2:ag:=⟨⟨0,2⟩,yH 1,2,1,⟨0,1⟩,1,⟨0,1⟩,2,2,0,9,⟨0,0⟩,⟨0,0⟩,0,0,0,.aU⟩
def q3:ag:=⟨⟨0,3⟩,yH 2,3,2,⟨0,1⟩,3,⟨0,2⟩,0,0,0,0,⟨0,0⟩,⟨0,0⟩,0,1,0,.aU⟩
def q4:ag:=⟨⟨0,4⟩,yH 3,4,2,⟨0,1⟩,4,⟨0,2⟩,0,0,0,0,⟨0,3⟩,⟨0,0⟩,0,2,0,.aU⟩
def q5:ag:=⟨⟨1,1⟩,yH 3,4,1,⟨0,1⟩,2,⟨0,1⟩,0,0,0,0,⟨0,2⟩,⟨0,0⟩,0,0,0,.aU⟩
def p1:ag:=q1.nz
def p2:ag:=q2.nz
def p3:ag:=q3.nz
def p4:ag:=q4.nz
def p5:ag:=q5.nz
def mc:List ag:=[p1,p2,p3,p4,p5]
set_option maxRecDepth 100000 in
theorem K5 {P:Program}{env:List (Nat×SV)}{hp:Hp}{k d p q s v w:Nat}{r:List SI}{K:St→List (Bool×List Nat)→Prop}(a b c e g:ag){z:List SV}(hz:z=AB++(AB++(AB++(AB++AB))))
  (ha:env.lookup p=some (.agg a.cells)) (hb:env.lookup q=some (.agg b.cells)) (hc:env.lookup s=some (.agg c.cells)) (he:env.lookup v=some (.agg e.cells)) (hg:env.lookup w=some (.agg g.cells))
  (h:RW P r ⟨(d,ops [a,b,c,e,g])::env,hp,k⟩ fun st' ts=>K st' ((false,[])::ts)):RW P (⟨some d,.oU 43 29 5 z [(0,29,.t p),(29,29,.t q),(58,29,.t s),(87,29,.t v),(116,29,.t w)],none⟩::r) ⟨env,hp,k⟩ K:=by
 subst hz
 refine RW.cons (e:=⟨ops [a,b,c,e,g],[],[],0,((29=29∧0+29≤145∧29=29∧29+29≤145∧29=29∧58+29≤145∧29=29∧87+29≤145∧29=29∧116+29≤145∧True))⟩) (fun de=>⟨.iB::de,fJ (.inl rfl) ?_⟩) (by show 29=29∧0+29≤145∧29=29∧29+29≤145∧29=29∧58+29≤145∧29=29∧87+29≤145∧29=29∧116+29≤145∧True;decide) ?_
 ·have h1:wQ (fun t=>env.lookup t) [(0,29,X.t p),(29,29,X.t q),(58,29,X.t s),(87,29,X.t v),(116,29,X.t w)]=some [(0,29,.agg a.cells),(29,29,.agg b.cells),(58,29,.agg c.cells),(87,29,.agg e.cells),(116,29,.agg g.cells)]:=by
   simp only [wQ,ev,ha,hb,hc,he,hg]
  have h2:mD (AB++(AB++(AB++(AB++AB)))) [(0,29,.agg a.cells),(29,29,.agg b.cells),(58,29,.agg c.cells),(87,29,.agg e.cells),(116,29,.agg g.cells)]=some (a.cells++(b.cells++(c.cells++(e.cells++g.cells))),((29=29∧0+29≤145∧29=29∧29+29≤145∧29=29∧58+29≤145∧29=29∧87+29≤145∧29=29∧116+29≤145∧True))):=rfl
  have h3:eH (a.cells++(b.cells++(c.cells++(e.cells++g.cells))))=some ([a,b,c,e,g].flatMap ag.ds):=rfl
  have h4:(a.cells++(b.cells++(c.cells++(e.cells++g.cells)))).all SV.dG=true:=rfl
  simp only [eV,cZ,h1,h2,h3,h4,if_true,Bool.false_or]
  rfl
 ·exact h
theorem RW.Ec {P:Program}{d:Nat}{z:List SV}{parts:List (Nat×Nat×X)}{r:List SI}{K:St→List (Bool×List Nat)→Prop}{env:List (Nat×SV)}{hp:Hp}{k:Nat}(cs:List SV){ps:List (Nat×Nat×SV)}{ob:Prop}(h1:wQ (fun t=>env.lookup t) parts=some ps)(h2:mD z ps=some (cs,ob))(bn:ob)
  (h:Go.Sl.RW P r ⟨(d,.agg cs)::env,hp,k⟩ fun st' ts=>K st' ((true,[])::ts)):Go.Sl.RW P (⟨some d,.fE z parts,none⟩::r) ⟨env,hp,k⟩ K:=
 RW.B3 (F:=[]) (F':=[]) (nk:=0) (ob:=ob) rfl rfl rfl (.inl rfl) (by simp only [eV,cZ,h1,h2]) bn rfl h
section
attribute [local irreducible] SW RW aM SC ak au ir rU
set_option maxRecDepth 100000 in
set_option maxHeartbeats 4000000 in
theorem Gd:Go.Sl.Pure Tryz.prog law18_row.f [] (ops [q1,q2,q3,q4,q5]):=by
 refine law18_row.enter (by first | rfl | simp [SV.ok,SV.ay]) (by first | rfl | simp [Hp.ok,Ob.ok,SV.ok,SV.ay,aL.ai]) (by simp) ?_
 dsimp only [law18_row.s,Co.M,Co.G,Co.J,Co.H,Co.N,Co.F,Co.C,Co.Z,Co.B,Co.b8,Co.aB,Co.bL,Co.i6,Co.z8,Co.bU]
 refine SW.seq ?_
 refine SW.g0 [0,1] mixed af ?_
 refine SW.seq ?_
 refine SW.g0 [0,1] mixed af ?_
 refine SW.seq ?_
 (refine SW.dL [0,1] mixed ?_;(repeat (first | refine RW.Ec q1.cells rfl rfl (by decide) (h:= ?_) | refine RW.Ec q2.cells rfl rfl (by decide) (h:= ?_) | refine RW.Ec q3.cells rfl rfl (by decide) (h:= ?_) | refine RW.Ec q4.cells rfl rfl (by decide) (h:= ?_) | refine RW.Ec q5.cells rfl rfl (by decide) (h:= ?_) | refine K5 q1 q2 q3 q4 q5 rfl rfl rfl rfl rfl rfl (h:= ?_) | refine RW.ro af (h:= ?_) | refine RW.skip (h:= ?_) | refine RW.op af (h:= ?_) | refine RW.eF af (h:= ?_) | refine RW.bH (h:= ?_)));refine RW.nil ⟨by kernel_rfl,au.mk (h:= ?_)⟩)
 refine SW.ret ?_
 exact End.mk [] (h4:=⟨rfl,rfl⟩)
end
theorem Ge (k:Nat):aM Tryz.prog law18_row.f [] [] k 0 (ops mc) []:=by
 have h0:aM Tryz.prog law18_row.f [] [] k 0 (ops [q1,q2,q3,q4,q5]) []:=Gd.sc rfl k
 refine SC.JP h0 fun p μ M u hu=> ?_
 rw [Rp.cu] at hu ⊢
 have:=bQ.Ld hu
 rw [← Cd] at this
 exact this
theorem GP:(a_ mc).at_=[(0,⟨0,1⟩,hc1),(1,⟨0,2⟩,EG)]:=by kernel_rfl
theorem GQ:rS (a_ mc).at_ (MM.get (a_ mc).at_ ⟨0,1⟩) [hc1]:=by
 rw [GP]
 exact .root hc1 (by decide)
theorem Ed:rS (a_ mc).at_ (MM.get (a_ mc).at_ ⟨0,2⟩) [EG,hc1]:=by
 rw [GP]
 exact .more EG _ (by decide) (.root hc1 (by decide))
theorem J3:mG mc p1=0:=by kernel_rfl
theorem J4:mG mc p2=0:=by kernel_rfl
theorem J5:mG mc p3=0:=by kernel_rfl
theorem J6:mG mc p4=0:=by kernel_rfl
theorem J7:mG mc p5=0:=FK Ed (by kernel_rfl)
theorem tV:∀ o,o∈mc→o.kind<256∧o.ow∧o.cl.length≤1048576:=fun o ho=>by
 simp only [mc,List.mem_cons,List.not_mem_nil,or_false] at ho
 rcases ho with rfl | rfl | rfl | rfl | rfl
 all_goals exact ⟨by decide,KY rfl,by decide⟩
end
section
theorem tW (l:List Dt):(Dt.set l).Nodup:=(Dt.sorted_perm _).nodup_iff.2 (wv l).keys
section
variable {l:List ag} {S:Sh} (h:cN l S) (hl:l.length≤80)
include h
theorem cN.xX {d:Dt}(hg:S.good d=true):∃ o,aD l d=some o∧mG l o=0∧S.op d=o∧o.dot=d∧d∈Dt.set (l.map (·.dot)):=by
 rw [h.good] at hg
 cases hf:aD l d with
 | none=>rw [hf] at hg;cases hg
 | some o=>
  rw [hf] at hg
  have hd:=dS hf
  refine ⟨o,rfl,of_decide_eq_true hg,?_,hd,?_⟩
  ·rw [h.base.op,bI hf]
  ·rw [Dt.mem_set]
   exact List.mem_map.2 ⟨o,vr hf,hd⟩
theorem cN.Bg {d:Dt}:(d∈Dt.set (l.map (·.dot))∧S.good d=true)↔S.good d=true:=⟨fun h=>h.2,fun hg=>⟨(h.xX hg).elim fun _ h=>h.2.2.2.2,hg⟩⟩
noncomputable abbrev cN.X (_:cN l S):Ix:=uf S (Dt.set (l.map (·.dot)))
theorem cN.EJ:H9 S (Dt.set (l.map (·.dot))) h.X:=DR _ _
theorem cN.uA (d:Dt):MM.has h.X.ops d=S.good d:=by
 unfold MM.has
 rw [h.EJ.ops]
 simp only [h.Bg]
 cases S.good d <;> rfl
theorem cN.Im {d:Dt}(hg:S.good d=true):h.X.op d=S.op d:=by
 unfold Ix.op
 rw [h.EJ.ops,if_pos (h.Bg.2 hg)];rfl
theorem cN.Ee {d:Dt}(hg:S.good d=true):h.X.kE d=S.kE (S.op d):=by
 unfold Ix.kE
 rw [h.EJ.ch,if_pos (h.Bg.2 hg)];rfl
theorem cN.J8 {d:Dt}(hg:S.good d=false):h.X.kE d=[]:=by
 unfold Ix.kE
 rw [h.EJ.ch,if_neg (fun hh=>by rw [hg] at hh;cases hh.2)];rfl
theorem cN.Io (c:Dt):h.X.nj c=(Dt.set (l.map (·.dot))).filter (S.rv c):=h.EJ.jV c
theorem cN.Gf (o:ag):(S.kE o).length≤9:=by
 unfold Sh.kE
 split
 ·simp
 ·obtain ⟨L,h1,h2⟩:=h.base.ue o.aK
  rw [List.length_map,i_ h1];exact h2
include hl
theorem cN.lV:(Dt.set (l.map (·.dot))).length≤80:=by
 have:=(tW (l.map (·.dot))).length_le_of_subset (l₂:=l.map (·.dot)) fun d hd=>Dt.mem_set.1 hd
 simpa using Nat.le_trans this (by simpa using hl)
theorem cN.small:h.X.small:=by
 have hd:=h.lV hl
 refine ⟨fun d=> ?_,fun c=> ?_,?_,h.EJ.wo⟩
 ·cases hg:S.good d with
  | false=>rw [h.J8 hg];simp
  | true=>rw [h.Ee hg];have:=h.Gf (S.op d);omega
 ·rw [h.Io]
  have:=List.length_filter_le (S.rv c) (Dt.set (l.map (·.dot)))
  omega
 ·have:=h.EJ.wo.keys.length_le_of_subset (l₂:=Dt.set (l.map (·.dot))) fun d hd'=>by
   rw [← MM.iV,h.uA] at hd'
   exact (h.Bg.2 hd').1
  have e:(MM.keys h.X.ops).length=h.X.ops.length:=by simp [MM.keys]
  omega
omit hl
theorem cN.xY {d:Dt}(hg:S.good d=true):h.X.lD (S.op d)=S.lD (Dt.set (l.map (·.dot))) (S.op d):=by
 obtain ⟨o,_,_,e1,e2,_⟩:=h.xX hg
 unfold Ix.lD Sh.lD
 rw [e1,e2,h.Ee hg,e1]
 congr 1
 funext c
 rw [h.Io]
 refine List.filter_congr fun t ht=> ?_
 have:S.good t=true:=by
  have:=(List.mem_filter.1 ht).2
  unfold Sh.rv at this
  rw [Bool.and_eq_true] at this
  exact this.1
 rw [h.Im this]
theorem cN.Gg {e v:Dt}:v∈h.X.D_ e↔S.good v=true∧e∈S.lD (Dt.set (l.map (·.dot))) (S.op v):=by
 unfold Ix.D_
 rw [List.mem_map]
 simp only [Ix.Ag]
 constructor
 ·rintro ⟨o,⟨⟨x,hx,rfl⟩,he⟩,rfl⟩
  have hk:=nZ h.EJ.wo.keys hx
  rw [h.EJ.ops] at hk
  split at hk
  ·rename_i hc
   injection hk with hk
   obtain ⟨o',_,_,e1,e2,_⟩:=h.xX hc.2
   have e3:x.2.2.dot=x.2.1:=by rw [← hk,e1,e2]
   rw [e3]
   refine ⟨hc.2,?_⟩
   rw [← h.xY hc.2,hk];exact he
  ·cases hk
 ·rintro ⟨hg,he⟩
  obtain ⟨o,_,_,e1,e2,_⟩:=h.xX hg
  have h2:MM.get h.X.ops v=some (S.op v):=by rw [h.EJ.ops,if_pos (h.Bg.2 hg)]
  obtain ⟨x,hx,a1,a2⟩:=get_mem h2
  exact ⟨S.op v,⟨⟨x,hx,a2⟩,by rw [h.xY hg];exact he⟩,by rw [e1,e2]⟩
end
theorem Dt.qe {a b:List Dt}(h:∀ v,v∈a↔v∈b):Dt.set a=Dt.set b:=Dt.jA (Dt.jI _) (Dt.jI _) fun v=>by rw [Dt.mem_set,Dt.mem_set,h]
theorem Ah:Dt.set (mc.map (·.dot))=[⟨0,1⟩,⟨0,2⟩,⟨0,3⟩,⟨0,4⟩,⟨1,1⟩]:=(Dt.od _).symm.trans (by kernel_rfl)
section
variable {S:Sh} (h:cN mc S)
include h
theorem yY:S.op ⟨0,1⟩=p1:=by rw [h.base.op];exact bI (by kernel_rfl)
theorem wH:S.op ⟨0,2⟩=p2:=by rw [h.base.op];exact bI (by kernel_rfl)
theorem yZ:S.op ⟨0,3⟩=p3:=by rw [h.base.op];exact bI (by kernel_rfl)
theorem wI:S.op ⟨0,4⟩=p4:=by rw [h.base.op];exact bI (by kernel_rfl)
theorem tX:S.op ⟨1,1⟩=p5:=by rw [h.base.op];exact bI (by kernel_rfl)
theorem GR:S.good ⟨0,1⟩=true:=by rw [h.rG (o:=p1) (by kernel_rfl),J3];rfl
theorem xZ:S.good ⟨0,2⟩=true:=by rw [h.rG (o:=p2) (by kernel_rfl),J4];rfl
theorem Ef:S.good ⟨0,3⟩=true:=by rw [h.rG (o:=p3) (by kernel_rfl),J5];rfl
theorem vB:S.good ⟨0,4⟩=true:=by rw [h.rG (o:=p4) (by kernel_rfl),J6];rfl
theorem GS:S.good ⟨1,1⟩=true:=by rw [h.rG (o:=p5) (by kernel_rfl),J7];rfl
theorem J9:S.good ⟨0,9⟩=false:=h.JO (by kernel_rfl)
theorem GU:S.kE p1=[]:=by unfold Sh.kE;rw [if_pos (by decide)]
theorem Eg:S.kE p2=[⟨0,1⟩]:=by unfold Sh.kE;rw [if_neg (by decide),h.base.tr];exact congrArg (List.map (·.dot)) (i_ GQ)
theorem J_:S.kE p3=[⟨0,2⟩,⟨0,1⟩]:=by unfold Sh.kE;rw [if_neg (by decide),h.base.tr];exact congrArg (List.map (·.dot)) (i_ Ed)
theorem Eh:S.kE p4=[⟨0,2⟩,⟨0,1⟩]:=by unfold Sh.kE;rw [if_neg (by decide),h.base.tr];exact congrArg (List.map (·.dot)) (i_ Ed)
theorem J':S.kE p5=[⟨0,1⟩]:=by unfold Sh.kE;rw [if_neg (by decide),h.base.tr];exact congrArg (List.map (·.dot)) (i_ GQ)
theorem GV {a d:Dt}(hd:d∈Dt.set (mc.map (·.dot)))(hk:S.good d=true∧(S.op d).kind=2∧(S.op d).at_=a):d=⟨1,1⟩∧a=⟨0,2⟩:=by
 rw [Ah] at hd
 simp only [List.mem_cons,List.not_mem_nil,or_false] at hd
 obtain ⟨_,h1,h2⟩:=hk
 rcases hd with rfl | rfl | rfl | rfl | rfl
 ·rw [yY h] at h1;exact absurd h1 (by decide)
 ·rw [wH h] at h1;exact absurd h1 (by decide)
 ·rw [yZ h] at h1;exact absurd h1 (by decide)
 ·rw [wI h] at h1;exact absurd h1 (by decide)
 ·rw [tX h] at h2;exact ⟨rfl,h2.symm⟩
theorem wJ (o:ag)(v:Dt):v∈S.lD (Dt.set (mc.map (·.dot))) o↔v=⟨1,1⟩∧(⟨0,2⟩:Dt)∈S.kE o∧o.before p5=false:=by
 rw [Sh.sx]
 constructor
 ·rintro ⟨h1,h2,h3,h4,h5⟩
  obtain ⟨rfl,ha⟩:=GV h h1 ⟨h2,h3,rfl⟩
  rw [tX h] at h4 h5
  exact ⟨rfl,h4,h5⟩
 ·rintro ⟨rfl,h1,h2⟩
  rw [tX h]
  exact ⟨by rw [Ah];decide,GS h,by decide,h1,h2⟩
theorem Ka:Dt.set (h.X.lD (h.X.op ⟨0,4⟩))=[⟨1,1⟩]:=by
 rw [h.Im (vB h),h.xY (vB h),wI h]
 refine (Dt.qe (b:=[⟨1,1⟩]) fun v=> ?_).trans ((Dt.od _).symm.trans (by kernel_rfl))
 rw [wJ h,Eh h]
 simp [show p4.before p5=false by kernel_rfl]
theorem Kb:Dt.set (h.X.lD (h.X.op ⟨0,3⟩))=[]:=by
 rw [h.Im (Ef h),h.xY (Ef h),yZ h]
 refine (Dt.qe (b:=[]) fun v=> ?_).trans ((Dt.od _).symm.trans (by kernel_rfl))
 rw [wJ h,J_ h]
 simp [show p3.before p5=true by kernel_rfl]
theorem Kc:Dt.set (h.X.lD (h.X.op ⟨0,2⟩))=[]:=by
 rw [h.Im (xZ h),h.xY (xZ h),wH h]
 refine (Dt.qe (b:=[]) fun v=> ?_).trans ((Dt.od _).symm.trans (by kernel_rfl))
 rw [wJ h,Eg h]
 simp
theorem Ke:Dt.set (h.X.nj ⟨0,2⟩)=[⟨1,1⟩]:=by
 rw [h.Io]
 refine (Dt.qe (b:=[⟨1,1⟩]) fun v=> ?_).trans ((Dt.od _).symm.trans (by kernel_rfl))
 rw [List.mem_filter,List.mem_singleton]
 unfold Sh.rv
 simp only [Bool.and_eq_true,decide_eq_true_eq]
 constructor
 ·rintro ⟨h1,h2,h3,h4⟩
  exact (GV h h1 ⟨h2,h3,h4⟩).1
 ·rintro rfl
  rw [tX h]
  exact ⟨by rw [Ah];decide,GS h,by decide,by decide⟩
theorem Kf:Dt.set (h.X.D_ ⟨1,1⟩)=[⟨0,4⟩]:=by
 refine (Dt.qe (b:=[⟨0,4⟩]) fun v=> ?_).trans ((Dt.od _).symm.trans (by kernel_rfl))
 rw [h.Gg,List.mem_singleton,wJ h]
 constructor
 ·rintro ⟨hg,_,hc,hb⟩
  have hd:=(h.Bg.2 hg).1
  rw [Ah] at hd
  simp only [List.mem_cons,List.not_mem_nil,or_false] at hd
  rcases hd with rfl | rfl | rfl | rfl | rfl
  ·rw [yY h,GU h] at hc;cases hc
  ·rw [wH h,Eg h] at hc;exact absurd hc (by decide)
  ·rw [yZ h] at hb;exact absurd hb (by rw [show p3.before p5=true by kernel_rfl];decide)
  ·rfl
  ·rw [tX h,J' h] at hc;exact absurd hc (by decide)
 ·rintro rfl
  rw [wI h,Eh h]
  exact ⟨vB h,rfl,by decide,by kernel_rfl⟩
end
end
section
attribute [local irreducible] SW RW aM SC ak au ir rU
theorem sC (S:Sh)(n:Nat):(lk S.jk n).isSome=true↔n∈[10,7,8,9,2,0,1]:=by
 rw [Option.isSome_iff_ne_none]
 constructor
 ·intro hn
  obtain ⟨ob,ho⟩:=Option.ne_none_iff_exists'.1 hn
  have:=(List.mem_map (f:=fun x:Nat×Ob=>x.1)).2 ⟨(n,ob),iC ho,rfl⟩
  simpa using this
 ·intro hn
  simp only [List.mem_cons,List.not_mem_nil,or_false] at hn
  rcases hn with rfl | rfl | rfl | rfl | rfl | rfl | rfl <;> simp [aa]
theorem Ei (S:Sh)(X:Ix)(q:Nat→Bool)(h:∀ n,n∈[0,1,2,7,8,9,10,11,12,13,14]→q n=true):(hX S X).ok q=true:=by
 have a:=fun n hn=>h n hn
 refine av (h 14 (by decide)) ?_ (av (h 13 (by decide)) (dZ _ _) (av (h 12 (by decide)) (dZ _ _) (av (h 11 (by decide)) (bq _ _) (av (h 10 (by decide)) ?_ (av (h 7 (by decide)) (bq _ _) (av (h 8 (by decide)) (bM _ _) (av (h 9 (by decide)) (lp _ _) (av (h 2 (by decide)) ?_ (av (h 0 (by decide)) (iY _ _) (av (h 1 (by decide)) (bq _ _) rfl))))))))))
 ·simp [Ob.ok,SV.ay,SV.ok,h 11,h 12,h 13]
 ·simp [Ob.ok,SV.ay,SV.ok,h 2,h 7,h 8,h 9]
 ·simp [Ob.ok,SV.ay,SV.ok,h 0,h 1]
theorem Ai (S:Sh)(q:Nat→Bool)(h:∀ n,n∈[0,1,2,7,8,9,10]→q n=true):S.jk.ok q=true:=by
 refine av (h 10 (by decide)) ?_ (av (h 7 (by decide)) (bq _ _) (av (h 8 (by decide)) (bM _ _) (av (h 9 (by decide)) (lp _ _) (av (h 2 (by decide)) ?_ (av (h 0 (by decide)) (iY _ _) (av (h 1 (by decide)) (bq _ _) rfl))))))
 ·simp [Ob.ok,SV.ay,SV.ok,h 2,h 7,h 8,h 9]
 ·simp [Ob.ok,SV.ay,SV.ok,h 0,h 1]
theorem cN.Kg {l:List ag}{S:Sh}(h:cN l S)(hl:l.length≤80)(hs:mB S):aM Tryz.prog revoke_New.f [.ptr 10 0] S.jk 11 4 (.ptr 14 0) (hX S h.X):=by
 unfold aM
 refine (Ac S _ h.base.ue hs (by have:=h.lV hl;omega) (h.DP hl)).here (fun n=>(lk S.jk n).isSome) (fun n hn=>Option.isSome_iff_ne_none.1 hn) (by simp [SV.ay,SV.ok,aa]) (Ai S _ fun n hn=>(sC S n).2 (by revert hn;simp;omega)) ?_
 rintro r F' ⟨rfl,rfl⟩ _ _
 refine ⟨by simp [SV.ok],Ei S _ _ fun n hn=> ?_⟩
 rw [Bool.or_eq_true]
 by_cases jk:n∈[10,7,8,9,2,0,1]
 ·exact .inl ((sC S n).2 jk)
 ·refine .inr ?_
  simp at hn jk ⊢
  omega
theorem Bh:Go.Sl.Pure Tryz.prog shape_Shape_none.f [.d .jt] (bl true):=by
 refine shape_Shape_none.enter (by first | rfl | simp [SV.ok,SV.ay]) (by first | rfl | simp [Hp.ok,Ob.ok,SV.ok,SV.ay,aL.ai]) (by simp) ?_
 dsimp only [shape_Shape_none.s,Co.M,Co.G,Co.J,Co.H,Co.N,Co.F,Co.C,Co.Z,Co.B,Co.b8,Co.aB,Co.bL,Co.i6,Co.z8,Co.bU]
 (repeat (first | refine SW.seq ?_ | refine SW.block ?_ | refine SW.g0 [0,2] mixed af ?_ | refine SW.skip ?_ | refine SW.exit ?_ | refine SW.ret ?_ | refine SW.ah rfl ?_ | refine SW.aj rfl ?_))
 exact End.mk [] (h4:=⟨rfl,rfl⟩)
theorem Bi:Go.Sl.Pure Tryz.prog shape_Shape_Tree.f [.d .jt] (.d .jt):=by
 refine shape_Shape_Tree.enter (by first | rfl | simp [SV.ok,SV.ay]) (by first | rfl | simp [Hp.ok,Ob.ok,SV.ok,SV.ay,aL.ai]) (by simp) ?_
 dsimp only [shape_Shape_Tree.s,Co.M,Co.G,Co.J,Co.H,Co.N,Co.F,Co.C,Co.Z,Co.B,Co.b8,Co.aB,Co.bL,Co.i6,Co.z8,Co.bU]
 (repeat (first | refine SW.seq ?_ | refine SW.block ?_ | refine SW.g1 [0,2,4] mixed af (Bh.sc rfl) ?_ | refine SW.skip ?_ | refine SW.exit ?_ | refine SW.ret ?_ | refine SW.ah rfl ?_ | refine SW.aj rfl ?_))
 exact End.mk [] (h4:=⟨rfl,rfl⟩)
theorem Ej:Go.Sl.Pure Tryz.prog revoke_New.f [.d .jt] (.d .jt):=by
 refine revoke_New.enter (by first | rfl | simp [SV.ok,SV.ay]) (by first | rfl | simp [Hp.ok,Ob.ok,SV.ok,SV.ay,aL.ai]) (by simp) ?_
 dsimp only [revoke_New.s,Co.M,Co.G,Co.J,Co.H,Co.N,Co.F,Co.C,Co.Z,Co.B,Co.b8,Co.aB,Co.bL,Co.i6,Co.z8,Co.bU]
 (repeat (first | refine SW.seq ?_ | refine SW.block ?_ | refine SW.g1 [0,2,3,5,6,10,18,19,20,21,27,55,63] mixed af (Bi.sc rfl) ?_ | refine SW.skip ?_ | refine SW.exit ?_ | refine SW.ret ?_ | refine SW.ah rfl ?_ | refine SW.aj rfl ?_))
 exact End.mk [] (h4:=⟨rfl,rfl⟩)
theorem Ek (k:Nat):aM Tryz.prog revoke_New.f [.d .jt] [] k 0 (.d .jt) []:=Ej.sc rfl k
section
variable {S:Sh} (h:cN mc S)
include h
theorem iq:h.X.small:=h.small (by decide)
theorem Lw (k:Nat):aM Tryz.prog revoke_Index_Threats.f [.ptr 14 0,.agg (Dt.mk 0 4).cells] h.X.qc k (9+ir 4) (.dM [bS [⟨1,1⟩],.d (.int .i64 0)]) h.X.qc:=by
 have:=sy h.X (iq h) ⟨0,4⟩ k
 unfold cL at this
 rw [h.uA,vB h,Ka h] at this
 exact this
theorem Lx (k:Nat):aM Tryz.prog revoke_Index_Threats.f [.ptr 14 0,.agg (Dt.mk 0 3).cells] h.X.qc k (9+ir 4) (.dM [bS [],.d (.int .i64 0)]) h.X.qc:=by
 have:=sy h.X (iq h) ⟨0,3⟩ k
 unfold cL at this
 rw [h.uA,Ef h,Kb h] at this
 exact this
theorem Ly (k:Nat):aM Tryz.prog revoke_Index_Threats.f [.ptr 14 0,.agg (Dt.mk 0 2).cells] h.X.qc k (9+ir 4) (.dM [bS [],.d (.int .i64 0)]) h.X.qc:=by
 have:=sy h.X (iq h) ⟨0,2⟩ k
 unfold cL at this
 rw [h.uA,xZ h,Kc h] at this
 exact this
theorem Lz (k:Nat):aM Tryz.prog revoke_Index_Level.f [.ptr 14 0,.agg (Dt.mk 0 1).cells] h.X.qc k 2 (.dM [.d (.int .i64 (-1)),.d (.int .i64 0)]) h.X.qc:=by
 have:=oe h.X (iq h) ⟨0,1⟩ k
 unfold fq at this
 rw [h.uA,GR h,h.Ee (GR h),yY h,GU h] at this
 exact this
theorem LA (k:Nat):aM Tryz.prog revoke_Index_Level.f [.ptr 14 0,.agg (Dt.mk 0 2).cells] h.X.qc k 2 (.dM [.d (.int .i64 0),.d (.int .i64 0)]) h.X.qc:=by
 have:=oe h.X (iq h) ⟨0,2⟩ k
 unfold fq at this
 rw [h.uA,xZ h,h.Ee (xZ h),wH h,Eg h] at this
 exact this
theorem LB (k:Nat):aM Tryz.prog revoke_Index_Level.f [.ptr 14 0,.agg (Dt.mk 0 4).cells] h.X.qc k 2 (.dM [.d (.int .i64 1),.d (.int .i64 0)]) h.X.qc:=by
 have:=oe h.X (iq h) ⟨0,4⟩ k
 unfold fq at this
 rw [h.uA,vB h,h.Ee (vB h),wI h,Eh h] at this
 exact this
theorem LC (k:Nat):aM Tryz.prog revoke_Index_Level.f [.ptr 14 0,.agg (Dt.mk 0 9).cells] h.X.qc k 2 (.dM [.d (.int .i64 0),.d (.int .i64 7)]) h.X.qc:=by
 have:=oe h.X (iq h) ⟨0,9⟩ k
 unfold fq at this
 rw [h.uA,J9 h] at this
 exact this
theorem LD (k:Nat):aM Tryz.prog revoke_Index_Revokes.f [.ptr 14 0,.agg (Dt.mk 0 2).cells] h.X.qc k 1 (bS [⟨1,1⟩]) h.X.qc:=by
 have:=F6 h.X (iq h) ⟨0,2⟩ k
 rw [Ke h] at this
 exact this
theorem LF (k:Nat):aM Tryz.prog revoke_Index_Threatened.f [.ptr 14 0,.agg (Dt.mk 1 1).cells] h.X.qc k (6+rU 4) (bS [⟨0,4⟩]) h.X.qc:=by
 have:=Gc h.X (iq h) ⟨1,1⟩ k
 rw [Kf h] at this
 exact this
end
end
section
attribute [local irreducible] SW RW aM SC ak au ir rU
theorem K6 (k:Nat):aM Tryz.prog ref03_Same.f [bS [⟨1,1⟩],.d (.sl 1 (Dt.mk 1 1).ds)] [] k 0 (.d (.bool true)) []:=zL [⟨1,1⟩] [⟨1,1⟩] (by decide) (by decide) k
theorem K7 (k:Nat):aM Tryz.prog ref03_Same.f [bS [⟨0,4⟩],.d (.sl 1 (Dt.mk 0 4).ds)] [] k 0 (.d (.bool true)) []:=zL [⟨0,4⟩] [⟨0,4⟩] (by decide) (by decide) k
theorem e9:cU (Dt.mk 0 0).cells 1 [.d (.int .u32 9)]=(Dt.mk 0 9).cells:=rfl
theorem e1:cU (Dt.mk 0 0).cells 1 [.d (.int .u32 1)]=(Dt.mk 0 1).cells:=rfl
theorem e2:cU (Dt.mk 0 0).cells 1 [.d (.int .u32 2)]=(Dt.mk 0 2).cells:=rfl
theorem Kz:cU (cU (Dt.mk 0 0).cells 0 [.d (.int .u8 1)]) 1 [.d (.int .u32 1)]=(Dt.mk 1 1).cells:=rfl
set_option maxHeartbeats 16000000 in
theorem Bj:Go.Sl.Pure Tryz.prog law18_head.f [] (bl true):=by
 refine law18_head.enter (by first | rfl | simp [SV.ok,SV.ay]) (by first | rfl | simp [Hp.ok,Ob.ok,SV.ok,SV.ay,aL.ai]) (by simp) ?_
 dsimp only [law18_head.s,Co.M,Co.G,Co.J,Co.H,Co.N,Co.F,Co.C,Co.Z,Co.B,Co.b8,Co.aB,Co.bL,Co.i6,Co.z8,Co.bU]
 refine SW.seq ?_
 refine SW.g0 [0,1,2,3,4,5,6,7,8,10,12,15,16,21] mixed af ?_
 refine SW.seq (SW.yu ?_)
 refine bw.oC af (Ge _) (h:= ?_)
 refine bw.bJ (Dy mc (by decide) (fun o ho=>⟨(tV o ho).1,(tV o ho).2.1⟩)) (HSub.nil _) (h:= ?_)
 rintro _ _ ⟨S,h,rfl,rfl⟩
 simp only [bV,dg,dh,fZ,gw,di,lk,List.lookup,Nat.reduceBEq,BEq.rfl,beq_self_eq_true,if_true,if_false,reduceIte,Nat.reduceEqDiff,Bool.false_eq_true,Option.isSome_some,Option.isSome_none,Nat.reduceAdd]
 refine bw.oC af (h.Kg (by decide) (h.short tV)) (h:= ?_)
 (repeat (first | refine bw.op af (h:= ?_) | refine bw.eF af (h:= ?_) | refine bw.skip (h:= ?_)))
 refine bw.nil ?_
 refine SW.seq (SW.seq ?_)
 refine SW.g0 [0,1,2,3,4,5,6,7,8,10,12,15,16,21] mixed af ?_
 refine SW.aj rfl (SW.skip ?_)
 have cz:=And.intro (Lw h) (And.intro (Lx h) (And.intro (Ly h) (And.intro (Lz h) (And.intro (LA h) (And.intro (LB h) (And.intro (LC h) (And.intro (LD h) (And.intro (LF h) (And.intro K6 (And.intro K7 (And.intro Ek True.intro)))))))))))
 refine SW.seq ?_
 refine SW.gM [0,1,2,3,4,5,6,7,8,10,12,15,16,21] mixed (d4) cz ?_
 refine SW.seq ?_
 refine SW.gM [0,1,2,3,4,5,6,7,8,10,12,15,16,21] mixed (d3) cz ?_
 refine SW.seq ?_
 refine SW.gM [0,1,2,3,4,5,6,7,8,10,12,15,16,21] mixed (e2) cz ?_
 refine SW.seq ?_
 refine SW.gM [0,1,2,3,4,5,6,7,8,10,12,15,16,21] mixed (e1) cz ?_
 refine SW.seq ?_
 refine SW.gM [0,1,2,3,4,5,6,7,8,10,12,15,16,21] mixed (e2) cz ?_
 refine SW.seq ?_
 refine SW.gM [0,1,2,3,4,5,6,7,8,10,12,15,16,21] mixed (d4) cz ?_
 refine SW.seq ?_
 refine SW.gM [0,1,2,3,4,5,6,7,8,10,12,15,16,21] mixed (e9) cz ?_
 refine SW.seq ?_
 refine SW.gM [0,1,2,3,4,5,6,7,8,10,12,15,16,21] mixed (Kz) cz ?_
 refine SW.seq ?_
 refine SW.gM [0,1,2,3,4,5,6,7,8,10,12,15,16,21] mixed (And.intro (d4) (And.intro (e2) (Kz))) cz ?_
 refine SW.ret ?_
 exact End.mk [] (h4:=⟨rfl,rfl⟩)
theorem lE (k:Nat):aM Tryz.prog law18_head.f [] [] k 0 (.d (.bool true)) []:=Bj.sc rfl k
end
section
theorem Dt.Ip (l:List Dt):(Dt.set l).length≤l.length:=(tW l).length_le_of_subset fun d hd=>Dt.mem_set.1 hd
section
variable {l:List ag} {S:Sh} (h:cN l S) (hl:l.length≤80)
include h
include hl
theorem cN.l_ (o:ag):(Dt.set (h.X.lD o)).length<1000000000:=by
 have h1:=Dt.Ip (h.X.lD o)
 have h2:=Go.Proofs.YtaelhkkjgfobhaaGreat.l_ h.X (h.small hl) o
 omega
end
end
section
theorem Iq {P:Program}{f:FuncId}{args:List SV}{F:Hp}{k nk:Nat}{Q:SV→Hp→Prop}(q:Nat→Bool)(h:SB P f args F k nk Q)(GC:∀ n,q n=true→lk F n≠none)(Bx:F.ok q=true)
  (hQ:∀ r F',Q r F'→r.ok (fun n=>q n || (decide (k≤n) && decide (n<k+nk)))=true∧F'.ok (fun n=>q n || (decide (k≤n) && decide (n<k+nk)))=true)
  (ρ:Nat→Nat) (k':Nat) (hinj:∀ n m,n<k→m<k→ρ n=ρ m→n=m) (hlt:∀ n,n<k→ρ n<k') (hnew:∀ i,i<nk→ρ (k+i)=k'+i):
  SC P f (SV.aW ρ args) (F.aC ρ) k' nk fun r F'=>∃ r0 F0,Q r0 F0∧r=r0.aC ρ∧F'=F0.aC ρ:=by
 refine ⟨h.1,fun p μ M w vals hp hr hS=> ?_⟩
 have hqP:∀ n,q n=true→p (ρ n):=fun n hn=>by
  obtain ⟨ob,ho⟩:=Option.ne_none_iff_exists'.1 (GC n hn)
  have hl:lk (F.aC ρ) (ρ n)=(lk F n).map (Ob.aC ρ):=ym h.2.2.1 (fun a b ha hb=>hinj a b (by simpa using ha) (by simpa using hb)) (by simpa using (Hp.dH h.2.2.1 ho).1)
  rw [ho] at hl
  exact (hS.obs _ _ hl).1
 obtain ⟨h1,h2,h3⟩:=zy (Q:=fun r F'=>Q r F') h.2.1 h.2.2.1 ρ k' hinj hnew (p:=fun m=>p m∨∃ n,n<k∧ρ n=m) (fun n hn hh=>by
  rcases hh with hh | ⟨m,hm,rfl⟩
  ·exact hp n hn hh
  ·have:=hlt m hm;omega) (fun n hn=> .inr ⟨n,hn,rfl⟩) (hr.more (fun _ h=> .inl h) (fun _ _=>rfl) (Mem.le_refl _)) (hS.more fun _ h=> .inl h)
 refine (h.2.2.2 _ M w vals h1 h2).mono fun e w' hx=> ?_
 obtain ⟨r,F',aZ,M',u,rfl,⟨r0,F0,hq0,rfl,rfl⟩,a,b,c⟩:=h3 e w' hx
 obtain ⟨k1,k2⟩:=hQ r0 F0 hq0
 have hq2:∀ n,(q n || (decide (k≤n) && decide (n<k+nk)))=true→(p (ρ n)∨(k'≤ρ n∧ρ n<k'+nk)):=fun n hn=>by
  simp only [Bool.or_eq_true,Bool.and_eq_true,decide_eq_true_eq] at hn
  rcases hn with hn | hn
  ·exact .inl (hqP n hn)
  ·have:=hnew (n - k) (by omega)
   rw [show k+(n - k)=n by omega] at this
   exact .inr (by omega)
 refine ⟨_,_,aZ,M',u,rfl,⟨r0,F0,hq0,rfl,rfl⟩,Rp.back k1 hq2 (fun _ _=>rfl) (Rp.to (p:=fun _=>True) (ν:=fun n=>aZ (ρ n)) k1 (fun _ _=>trivial) (fun _ _=>rfl) a.rep).rep,⟨b.mem,fun m ob hm=> ?_,b.inj⟩,c⟩
 obtain ⟨_,b1,b2⟩:=b.obs m ob hm
 obtain ⟨n,jw,hmem,rfl,rfl⟩:=rA hm
 have hn:=List.all_eq_true.1 k2 _ hmem
 simp only [Bool.and_eq_true] at hn
 have b3:bW (fun _=>True) (fun n=>aZ (ρ n)) M' w' (aZ (ρ n)) jw:=bW.to hn.2 (fun _ _=>trivial) (fun _ _=>rfl) b1
 exact ⟨hq2 n hn.1,bW.back hn.2 hq2 (fun _ _=>rfl) b3,b2⟩
abbrev Sh.K8 (S:Sh):Hp:=[(25,.box 117 [.ptr 17 0,.mp 22,.mp 23,.mp 24]),(22,.map (an Dt.cells ov S.ops) S.co),(23,.map (an Dt.cells iv S.gf) S.ca),(24,.map (an Dt.cells dv S.mA) S.cl),
 (17,.box 166 [.mp 15,.mp 16]),(15,.map (an Dt.cells cv S.tr) S.ct),(16,.map (an Dt.cells ov S.md) S.cm)]
abbrev Kh (S:Sh)(X:Ix):Hp:=(29,.box 110 [.any,.mp 26,.mp 27,.mp 28])::(28,.map (an Dt.cells dn X.jV) X.cf)::(27,.map (an Dt.cells dn X.ch) X.cc)::(26,.map (an Dt.cells ov X.ops) X.co)::S.K8
theorem Gh (l:List ag)(hl:l.length<1000000000)(hd:∀ o,o∈l→o.kind<256∧o.ow):SC Tryz.prog shape_New.f [ops l] [] 15 11 fun r F=>∃ S,cN l S∧r= .ptr 25 0∧F=S.K8:=z_ l hl hd 15
theorem El (S:Sh)(X:Ix):Hp.aC (· +15) (hX S X)=Kh S X:=by
 simp only [Hp.aC,List.map_cons,List.map_nil,Ob.aC,SV.aW,SV.aC,ic,cF,nY,eC,gy]
theorem cN.Ki {l:List ag}{S:Sh}(h:cN l S)(hl:l.length≤80)(hs:mB S)(p:Nat):aM Tryz.prog revoke_New.f [.ptr (10+p) 0] (Hp.aC (· +p) S.jk) (11+p) 4 (.ptr (14+p) 0) (Hp.aC (· +p) (hX S h.X)):=by
 have:=Iq (fun n=>(lk S.jk n).isSome) (Ac S _ h.base.ue hs (by have:=h.lV hl;omega) (h.DP hl)) (fun n hn=>Option.isSome_iff_ne_none.1 hn) (Ai S _ fun n hn=>(sC S n).2 (by revert hn;simp;omega)) (by
  rintro r F' ⟨rfl,rfl⟩
  refine ⟨by simp [SV.ok],Ei S _ _ fun n hn=> ?_⟩
  rw [Bool.or_eq_true]
  by_cases jk:n∈[10,7,8,9,2,0,1]
  ·exact .inl ((sC S n).2 jk)
  ·refine .inr ?_
   simp at hn jk ⊢
   omega) (· +p) (11+p) (fun n m _ _ e=>by have e:n+p=m+p:=e;omega) (fun n hn=>by show n+p<11+p;omega) (fun i _=>by show 11+i+p=11+p+i;omega)
 unfold aM
 refine SC.mono (show SC Tryz.prog revoke_New.f [.ptr (10+p) 0] (Hp.aC (· +p) S.jk) (11+p) 4 _ from this) ?_
 rintro r F ⟨r0,F0,⟨rfl,rfl⟩,rfl,rfl⟩
 exact ⟨rfl,rfl⟩
theorem cN.Ir {l:List ag}{S:Sh}(h:cN l S)(hl:l.length≤80)(hs:mB S):aM Tryz.prog revoke_New.f [.ptr 25 0] S.K8 26 4 (.ptr 29 0) (Kh S h.X):=by
 have:=h.Ki hl hs 15
 rw [El,S.zZ 15] at this
 exact this
abbrev Ix.K9 (X:Ix):Hp:=[(29,.box 110 [.any,.mp 26,.mp 27,.mp 28]),(26,.map (an Dt.cells ov X.ops) X.co),(27,.map (an Dt.cells dn X.ch) X.cc),(28,.map (an Dt.cells dn X.jV) X.cf)]
theorem Gi (X:Ix)(hX:X.small)(d:Dt)(k:Nat):aM Tryz.prog revoke_Index_Threats.f [.ptr 29 0,.agg d.cells] X.K9 k (9+ir 4) (cL X d) X.K9:=by
 have:=SB.qA [29,26,27,28] (Af X hX d) (by decide) (fun i hi=>by
  match i,hi with
  | 0,_ | 1,_ | 2,_ | 3,_=>simp [aa]) k
 rw [show X.h0.aC (gx [29,26,27,28] k)=X.K9 by simp [Hp.aC,Ob.aC,SV.aW,SV.aC,gx,cF,gy],show (cL X d).aC (gx [29,26,27,28] k)=cL X d by unfold cL;split <;> simp [SV.aW,SV.aC]] at this
 simpa [SV.aW,SV.aC,gx,Dt.ax] using this
end
section
section
variable {t l:List ag} {S U:Sh} (hP:Part t l) (hS:cN t S) (hU:cN l U)
include hP hS hU
theorem og {x:ag}(hx:x∈t):S.good x.dot=U.good x.dot:=by
 rw [hS.rG (hP.A2.find hx),hU.rG (hP.uniq.find (hP.sub x hx)),yM hP hx]
theorem Em {x:ag}(hx:x∈t)(hg:U.good x.dot=true):S.kE x=U.kE x:=by
 rw [hS.kE,hU.kE]
 unfold Ij
 by_cases hk:x.kind=0
 ·rw [if_pos hk,if_pos hk]
 ·rw [if_neg hk,if_neg hk]
  rw [hU.rG (hP.uniq.find (hP.sub x hx))] at hg
  have hw:mG l x=0:=of_decide_eq_true hg
  unfold mG yK at hw
  obtain ⟨_,_,h3,_,_⟩:=Dx.1 hw
  rw [(hP.JN.yL hx (h3 hk).1).2]
theorem tY {x:ag}(hx:x∈t)(hg:U.good x.dot=true)(v:Dt):v∈Dt.set (hS.X.lD (hS.X.op x.dot))↔v∈Dt.set (hU.X.lD (hU.X.op x.dot))∧(aD t v).isSome=true:=by
 have hgS:S.good x.dot=true:=by rw [og hP hS hU hx];exact hg
 have eS:S.op x.dot=x:=by rw [hS.base.op];exact bI (hP.A2.find hx)
 have eU:U.op x.dot=x:=by rw [hU.base.op];exact bI (hP.uniq.find (hP.sub x hx))
 rw [Dt.mem_set,Dt.mem_set,hS.Im hgS,hU.Im hg,hS.xY hgS,hU.xY hg,eS,eU,Sh.sx,Sh.sx,Em hP hS hU hx hg]
 constructor
 ·rintro ⟨_,h2,h3,h4,h5⟩
  obtain ⟨r,hf,hw,er,hd,_⟩:=hS.xX h2
  have hr:=(cT hf).1
  have hgU:U.good v=true:=by rw [← hd,← og hP hS hU hr,hd];exact h2
  obtain ⟨r',hf',_,er',_,hm⟩:=hU.xX hgU
  have e:r'=r:=by
   have:=hP.find hf
   rw [hf'] at this;injection this
  rw [er] at h3 h4 h5
  rw [er',e,hf]
  exact ⟨⟨hm,hgU,h3,h4,h5⟩,rfl⟩
 ·rintro ⟨⟨_,h2,h3,h4,h5⟩,hs⟩
  obtain ⟨r,hf⟩:=Option.isSome_iff_exists.1 hs
  have hr:=(cT hf).1
  have hd:=dS hf
  have hgS':S.good v=true:=by rw [← hd,og hP hS hU hr,hd];exact h2
  obtain ⟨r',hf',_,er',_,hm⟩:=hS.xX hgS'
  have e2:U.op v=r:=by rw [hU.base.op];exact bI (hP.find hf)
  have e:r'=r:=by rw [hf] at hf';injection hf' with hf';exact hf'.symm
  rw [e2] at h3 h4 h5
  rw [er',e]
  exact ⟨hm,hgS',h3,h4,h5⟩
theorem Eo {x:ag}(hx:x∈t)(hg:U.good x.dot=true){v:Dt}(hv:v∈Dt.set (hU.X.lD (hU.X.op x.dot)))(hn:(aD t v).isSome=false):(rT l v).before x=false:=by
 rw [Dt.mem_set,hU.Im hg,hU.xY hg,Sh.sx] at hv
 obtain ⟨_,h2,_⟩:=hv
 obtain ⟨r,hf,_,_,_,_⟩:=hU.xX h2
 rw [bI hf,Bool.eq_false_iff]
 intro hb
 have hr:=hP.Kr x r hx (cT hf).1 hb
 have:=hP.A2.find hr
 rw [dS hf] at this
 rw [this] at hn;cases hn
end
structure LG (t l:List ag)(A:List Dt)(x:ag)(v:Dt):Prop where
 same:(aD t v).isSome=decide (v∈A)
 new:(aD t v).isSome=false→(rT l v).before x=false
theorem Bk {l:List ag}(hu:fL l)(v:Dt):rT (aT l) v=rT l v:=by
 have hp:=hu.tf
 have hu':fL (aT l):=hu.perm hp
 unfold rT
 cases hf:aD l v with
 | some r=>
  have h1:=(cT hf).1
  have:=hu'.find (hp.mem_iff.2 h1)
  rw [dS hf] at this
  rw [this]
 | none=>
  cases hg:aD (aT l) v with
  | none=>rfl
  | some r=>
   have h1:=hp.mem_iff.1 (cT hg).1
   have:=hu.find h1
   rw [dS hg,hf] at this
   cases this
theorem Is {t l:List ag}{S U:Sh}(hP:Part t l)(hS:cN t S)(hU:cN l U){x:ag}(hx:x∈t)(hg:U.good x.dot=true){v:Dt}(hv:v∈Dt.set (hU.X.lD (hU.X.op x.dot))):LG t l (Dt.set (hS.X.lD (hS.X.op x.dot))) x v:=by
 refine ⟨?_,fun hn=>Eo hP hS hU hx hg hv hn⟩
 rw [Bool.eq_iff_iff,decide_eq_true_eq,tY hP hS hU hx hg]
 exact ⟨fun h=>⟨hv,h⟩,fun h=>h.2⟩
end
end Go.Proofs.YtaelhkkjgfobhaaGreat
