/-
 Gossip: Delta.
-/
import Derived.Test.YtnakpdoioammhaaGreatDoorUC
import Derived.Test.YtnakpdoioammhaaGreatDoorUK
set_option linter.unusedSectionVars false
set_option linter.unusedVariables false
set_option linter.unusedSimpArgs false
namespace Go.Proofs.YtnakpdoioammhaaGreatDoor
open Go.Sl Go.Proofs
section
attribute [local irreducible] SW RW bB SC ai aa
theorem Bs {kd fr to:Nat}{h:ag}{o:DV}{l:List ah}(e:Int)(hb:l9 kd fr to l=true)(ho:nN o l)(hl:l.length<4611686018427387904)(hw:∀ x,x∈l→x.jf)(k:Nat):bB Tryz.prog gossip_may.f [.agg (fe kd fr to h (.d o)),.d (.int .i64 e)] [] k 0 (.cW [.agg (fe kd fr to h (.d o)),i64 0]) []:=by
 have hc:=(xU kd fr to h o l e ho hl hw).sc (by rw [l_,hb];simp [SV.ok,SV.aF,iq]) k
 rw [l_,hb] at hc
 exact hc
theorem Bt {kd fr to:Nat}{h:ag}{o:DV}{l:List ah}(e:Int)(hb:l9 kd fr to l=false)(ho:nN o l)(hl:l.length<4611686018427387904)(hw:∀ x,x∈l→x.jf)(k:Nat):bB Tryz.prog gossip_may.f [.agg (fe kd fr to h (.d o)),.d (.int .i64 e)] [] k 0 (.cW [.agg jv,i64 e]) []:=by
 have hc:=(xU kd fr to h o l e ho hl hw).sc (by rw [l_,hb];simp [SV.ok,SV.aF,iq]) k
 rw [l_,hb] at hc
 exact hc
def vq (l:List ah):DV:=if l.isEmpty then .aY else .sl l.length (l.flatMap ah.ds)
theorem pX (l:List ah):nN (vq l) l:=by
 cases l with
 | nil=>exact .inl ⟨rfl,rfl⟩
 | cons x l=>exact .inr rfl
def jb (l:List ah)(v:ag)(most:Int):List ah:=(eD l v).take most.toNat
def oB (fr to:Nat)(l:List ah)(v:ag)(most:Int):SV:=
 if l9 1 fr to []=false then .cW [.agg jv,i64 2] else if most<1∨most>64 then .cW [.agg jv,i64 2] else
  l_ (l9 1 fr to (jb l v most)) (fe 1 fr to (az l) (.d (vq (jb l v most)))) 3
theorem DG {y fb mb m:Nat}{s0 s:DF y fb mb}{xs:List ah}(h:ig (DF.to m) s0 xs s)(h0:s0.row=none)(hp:s0.pe=none):
  (xs=[]→s.row=none)∧(s.pe=none→s.l=xs∧xs.length≤m)∧(s.pe≠none→s.pe=some (.exit 1)∧s.l=xs.take m∧m<xs.length):=by
 induction h with
 | nil=>exact ⟨fun _=>h0,fun _=>⟨by simp [DF.l,h0],by simp⟩,fun h=>absurd hp h⟩
 | @snoc xs s1 s2 x _ h ih=>
  obtain ⟨h1,h2,h3⟩:=h
  obtain ⟨e1,e2⟩:=ih.2.1 h1
  refine ⟨fun h=>by simp at h,?_⟩
  refine Classical.byCases (p:=s1.l.length=m) (fun e=> ?_) fun e=> ?_
  ·obtain ⟨g1,g2⟩:=h2 e
   refine ⟨fun h=>(by rw [g1] at h;cases h),fun _=>⟨g1,?_,?_⟩⟩
   ·rw [g2,e1,← e,e1,List.take_append_of_le_length (Nat.le_refl _),List.take_length]
   ·rw [List.length_append,← e1,e];simp
  ·obtain ⟨g1,g2⟩:=h3 e
   refine ⟨fun _=>⟨by rw [g2,e1],?_⟩,fun h=>absurd g1 h⟩
   rw [e1] at e
   simp;omega
theorem IJ (fr to:Nat)(h:ag):bV (bV (bV (bV jv 0 [.d (.int .u8 1)]) 1 [u8 fr]) 2 [u8 to]) 3 h.cells=fe 1 fr to h (.d .aY):=rfl
set_option maxHeartbeats 4000000 in
theorem Bu (fr to:Nat)(l:List ah)(v:ag)(most:Int)(hl:mB l):Go.Sl.Pure Tryz.prog gossip_Delta.f [u8 fr,u8 to,ops l,.agg v.cells,i64 most] (oB fr to l v most):=by
 have nR:=hl.1
 have hwl:∀ x,x∈l→x.jf:=fun x hx=>(hl.2 x hx).1
 have hwd:∀ x,x∈l→x.dot.wf:=fun x hx=>(hl.2 x hx).2.2
 refine gossip_Delta.enter (by simp [SV.ok,SV.aF,SV.cm,ag.an]) (by simp [Hp.ok]) (by simp) ?_
 dsimp only [gossip_Delta.s,Co.M,Co.G,Co.J,Co.H,Co.N,Co.F,Co.C,Co.Z,Co.B,Co.b8,Co.aJ,Co.b_,Co.i6,Co.z8,Co.cn]
 have z0:jv.all SV.aZ=true:=rfl
 have z1:jv.length=12:=rfl
 have z2:bV jv 0 jv=jv:=rfl
 have z3:List.take 12 jv=jv:=rfl
 have g0:=IJ fr to (az l)
 have g1:=y5 1 fr to (az l)
 have g2:∀ x:DV,(fe 1 fr to (az l) (.d x)).all SV.aZ=true:=fun x=>oA 1 fr to (az l) (.d x) rfl
 have g3:∀ o,List.take 12 (fe 1 fr to (az l) o)=fe 1 fr to (az l) o:=fun _=>rfl
 have g4:∀ o,bV jv 0 (fe 1 fr to (az l) o)=fe 1 fr to (az l) o:=fun _=>rfl
 refine SW.seq ?_
 (have fx:=(And.intro (de) (And.intro (z0) (And.intro (z1) (And.intro (z2) (z3)))));refine SW.au [0,1,2,3,4,8,9,10,11,12,13,14,24,29,39,40,45] mixed ?_;(repeat (first | refine RW.ro fx (h:= ?_) | refine RW.skip (h:= ?_) | refine RW.op fx (h:= ?_) | refine RW.aL fx (h:= ?_) | refine RW.aj (h:= ?_)));refine RW.nil ⟨by kernel_rfl,aa.mk (h:= ?_)⟩)
 unfold oB
 rcases hb:l9 1 fr to [] with _ | _
 ·have hm:=Bt (h:=az l) (o:= .aY) 2 hb (.inl ⟨rfl,rfl⟩) (by simp) (by simp)
  refine SW.seq ?_
  (have fx:=(And.intro (de) (And.intro (z0) (And.intro (z1) (And.intro (z2) (And.intro (z3) (And.intro (g0) (And.intro (g1) (And.intro (g2) (And.intro (g3) (g4))))))))));refine SW.au [0,1,2,3,4,8,9,10,11,12,13,14,24,29,39,40,45] mixed ?_;(repeat (first | refine RW.ro fx (h:= ?_) | refine RW.skip (h:= ?_) | refine RW.op fx (h:= ?_) | refine RW.aL fx (h:= ?_) | refine RW.aj (h:= ?_) | (refine RW.aG (h:= ?_);(first | refine ai.mk fx (hc:=dG _ (by first | assumption | omega) hwd _) (h:= ?_) | refine ai.mk fx (hc:=hm _) (h:= ?_)))));refine RW.nil ⟨by kernel_rfl,aa.mk (h:= ?_)⟩)
  refine SW.seq (SW.block (SW.seq ?_))
  (have fx:=(And.intro (de) (And.intro (z0) (And.intro (z1) (And.intro (z2) (And.intro (z3) (And.intro (g0) (And.intro (g1) (And.intro (g2) (And.intro (g3) (g4))))))))));refine SW.au [0,1,2,3,4,8,9,10,11,12,13,14,24,29,39,40,45] mixed ?_;(repeat (first | refine RW.ro fx (h:= ?_) | refine RW.skip (h:= ?_) | refine RW.op fx (h:= ?_) | refine RW.aL fx (h:= ?_) | refine RW.aj (h:= ?_) | (refine RW.aG (h:= ?_);(first | refine ai.mk fx (hc:=dG _ (by first | assumption | omega) hwd _) (h:= ?_) | refine ai.mk fx (hc:=hm _) (h:= ?_)))));refine RW.nil ⟨by kernel_rfl,aa.mk (h:= ?_)⟩)
  refine SW.aC rfl ?_
  (repeat (first | refine SW.seq ?_ | refine SW.block ?_ | (have fx:=(And.intro (de) (And.intro (z0) (And.intro (z1) (And.intro (z2) (And.intro (z3) (And.intro (g0) (And.intro (g1) (And.intro (g2) (And.intro (g3) (g4))))))))));refine SW.au [0,1,2,3,4,8,9,10,11,12,13,14,24,29,39,40,45] mixed ?_;(repeat (first | refine RW.ro fx (h:= ?_) | refine RW.skip (h:= ?_) | refine RW.op fx (h:= ?_) | refine RW.aL fx (h:= ?_) | refine RW.aj (h:= ?_) | (refine RW.aG (h:= ?_);(first | refine ai.mk fx (hc:=dG _ (by first | assumption | omega) hwd _) (h:= ?_) | refine ai.mk fx (hc:=hm _) (h:= ?_)))));refine RW.nil ⟨by kernel_rfl,aa.mk (h:= ?_)⟩) | refine SW.skip ?_ | refine SW.exit ?_ | refine SW.ret ?_ | refine SW.aC rfl ?_ | refine SW.ay rfl ?_))
  exact End.mk [] (h2:=by simp [fJ,z1]) (h4:=⟨rfl,rfl⟩)
 have hm:=Bs (h:=az l) (o:= .aY) 2 hb (.inl ⟨rfl,rfl⟩) (by simp) (by simp)
 refine SW.seq ?_
 (have fx:=(And.intro (de) (And.intro (z0) (And.intro (z1) (And.intro (z2) (And.intro (z3) (And.intro (g0) (And.intro (g1) (And.intro (g2) (And.intro (g3) (g4))))))))));refine SW.au [0,1,2,3,4,8,9,10,11,12,13,14,24,29,39,40,45] mixed ?_;(repeat (first | refine RW.ro fx (h:= ?_) | refine RW.skip (h:= ?_) | refine RW.op fx (h:= ?_) | refine RW.aL fx (h:= ?_) | refine RW.aj (h:= ?_) | (refine RW.aG (h:= ?_);(first | refine ai.mk fx (hc:=dG _ (by first | assumption | omega) hwd _) (h:= ?_) | refine ai.mk fx (hc:=hm _) (h:= ?_)))));refine RW.nil ⟨by kernel_rfl,aa.mk (h:= ?_)⟩)
 refine SW.seq (SW.block (SW.seq ?_))
 (have fx:=(And.intro (de) (And.intro (z0) (And.intro (z1) (And.intro (z2) (And.intro (z3) (And.intro (g0) (And.intro (g1) (And.intro (g2) (And.intro (g3) (g4))))))))));refine SW.au [0,1,2,3,4,8,9,10,11,12,13,14,24,29,39,40,45] mixed ?_;(repeat (first | refine RW.ro fx (h:= ?_) | refine RW.skip (h:= ?_) | refine RW.op fx (h:= ?_) | refine RW.aL fx (h:= ?_) | refine RW.aj (h:= ?_) | (refine RW.aG (h:= ?_);(first | refine ai.mk fx (hc:=dG _ (by first | assumption | omega) hwd _) (h:= ?_) | refine ai.mk fx (hc:=hm _) (h:= ?_)))));refine RW.nil ⟨by kernel_rfl,aa.mk (h:= ?_)⟩)
 refine SW.ay rfl (SW.seq ?_)
 have hbad:∀ h:most<1∨most>64,(if true=false then SV.cW [.agg jv,i64 2] else if most<1∨most>64 then .cW [.agg jv,i64 2] else l_ (l9 1 fr to (jb l v most)) (fe 1 fr to (az l) (.d (vq (jb l v most)))) 3)= .cW [.agg jv,i64 2]:=fun h=>by rw [if_neg (by simp),if_pos h]
 refine Classical.byCases (fun h1:most<1=> ?_) fun h1=> ?_
 ·have q1:decide (most<1)=true:=by simpa using h1
  rw [hbad (.inl h1)]
  (have fx:=(And.intro (de) (q1));refine SW.au [0,1,2,3,4,8,9,10,11,12,13,14,24,29,39,40,45] mixed ?_;(repeat (first | refine RW.ro fx (h:= ?_) | refine RW.skip (h:= ?_) | refine RW.op fx (h:= ?_) | refine RW.aL fx (h:= ?_) | refine RW.aj (h:= ?_) | (refine RW.aG (h:= ?_);(first | refine ai.mk fx (hc:=dG _ (by first | assumption | omega) hwd _) (h:= ?_) | refine ai.mk fx (hc:=hm _) (h:= ?_)))));refine RW.nil ⟨by kernel_rfl,aa.mk (h:= ?_)⟩)
  refine SW.aC rfl ?_
  (repeat (first | refine SW.seq ?_ | refine SW.block ?_ | (have fx:=(And.intro (de) (And.intro (z0) (And.intro (z1) (And.intro (z2) (And.intro (z3) (And.intro (g0) (And.intro (g1) (And.intro (g2) (And.intro (g3) (g4))))))))));refine SW.au [0,1,2,3,4,8,9,10,11,12,13,14,24,29,39,40,45] mixed ?_;(repeat (first | refine RW.ro fx (h:= ?_) | refine RW.skip (h:= ?_) | refine RW.op fx (h:= ?_) | refine RW.aL fx (h:= ?_) | refine RW.aj (h:= ?_) | (refine RW.aG (h:= ?_);(first | refine ai.mk fx (hc:=dG _ (by first | assumption | omega) hwd _) (h:= ?_) | refine ai.mk fx (hc:=hm _) (h:= ?_)))));refine RW.nil ⟨by kernel_rfl,aa.mk (h:= ?_)⟩) | refine SW.skip ?_ | refine SW.exit ?_ | refine SW.ret ?_ | refine SW.aC rfl ?_ | refine SW.ay rfl ?_))
  exact End.mk [] (h2:=by simp [fJ,z1]) (h4:=⟨rfl,rfl⟩)
 have q1:decide (most<1)=false:=by simpa using h1
 refine Classical.byCases (fun h2:most>64=> ?_) fun h2=> ?_
 ·have q2:decide (most>64)=true:=by simpa using h2
  rw [hbad (.inr h2)]
  (have fx:=(And.intro (de) (And.intro (q1) (q2)));refine SW.au [0,1,2,3,4,8,9,10,11,12,13,14,24,29,39,40,45] mixed ?_;(repeat (first | refine RW.ro fx (h:= ?_) | refine RW.skip (h:= ?_) | refine RW.op fx (h:= ?_) | refine RW.aL fx (h:= ?_) | refine RW.aj (h:= ?_) | (refine RW.aG (h:= ?_);(first | refine ai.mk fx (hc:=dG _ (by first | assumption | omega) hwd _) (h:= ?_) | refine ai.mk fx (hc:=hm _) (h:= ?_)))));refine RW.nil ⟨by kernel_rfl,aa.mk (h:= ?_)⟩)
  refine SW.aC rfl ?_
  (repeat (first | refine SW.seq ?_ | refine SW.block ?_ | (have fx:=(And.intro (de) (And.intro (z0) (And.intro (z1) (And.intro (z2) (And.intro (z3) (And.intro (g0) (And.intro (g1) (And.intro (g2) (And.intro (g3) (g4))))))))));refine SW.au [0,1,2,3,4,8,9,10,11,12,13,14,24,29,39,40,45] mixed ?_;(repeat (first | refine RW.ro fx (h:= ?_) | refine RW.skip (h:= ?_) | refine RW.op fx (h:= ?_) | refine RW.aL fx (h:= ?_) | refine RW.aj (h:= ?_) | (refine RW.aG (h:= ?_);(first | refine ai.mk fx (hc:=dG _ (by first | assumption | omega) hwd _) (h:= ?_) | refine ai.mk fx (hc:=hm _) (h:= ?_)))));refine RW.nil ⟨by kernel_rfl,aa.mk (h:= ?_)⟩) | refine SW.skip ?_ | refine SW.exit ?_ | refine SW.ret ?_ | refine SW.aC rfl ?_ | refine SW.ay rfl ?_))
  exact End.mk [] (h2:=by simp [fJ,z1]) (h4:=⟨rfl,rfl⟩)
 have q2:decide (most>64)=false:=by simpa using h2
 (have fx:=(And.intro (de) (And.intro (q1) (q2)));refine SW.au [0,1,2,3,4,8,9,10,11,12,13,14,24,29,39,40,45] mixed ?_;(repeat (first | refine RW.ro fx (h:= ?_) | refine RW.skip (h:= ?_) | refine RW.op fx (h:= ?_) | refine RW.aL fx (h:= ?_) | refine RW.aj (h:= ?_) | (refine RW.aG (h:= ?_);(first | refine ai.mk fx (hc:=dG _ (by first | assumption | omega) hwd _) (h:= ?_) | refine ai.mk fx (hc:=hm _) (h:= ?_)))));refine RW.nil ⟨by kernel_rfl,aa.mk (h:= ?_)⟩)
 refine SW.ay rfl (SW.skip ?_)
 rw [if_neg (by simp),if_neg (by omega)]
 clear hbad hb q1 q2
 obtain ⟨m,rfl⟩:∃ m:Nat,most=(m:Int):=⟨most.toNat,by omega⟩
 have hm0:1≤m:=by omega
 have hm1:m<1000:=by omega
 have hlk:bB Tryz.prog gossip_lacked.f [ops l,.agg v.cells] [] 4 2 (.fn (.func gossip_lacked_1.f) [] [.ptr 4 0,.ptr 5 0]) [(4,.box 22 [ops l]),(5,.box 34 v.cells)]:=oz l v 4
 refine SW.seq (SW.seq ?_)
 (have fx:=(And.intro (de) (And.intro (z0) (And.intro (z1) (And.intro (z2) (And.intro (z3) (And.intro (g0) (And.intro (g1) (And.intro (g2) (And.intro (g3) (g4))))))))));refine SW.au [0,1,2,3,4,8,9,10,11,12,13,14,24,29,39,40,45] mixed ?_;(repeat (first | refine RW.ro fx (h:= ?_) | refine RW.skip (h:= ?_) | refine RW.op fx (h:= ?_) | refine RW.aL fx (h:= ?_) | refine RW.aj (h:= ?_) | (refine RW.aG (h:= ?_);(first | refine ai.mk fx (hc:=hlk) (h:= ?_)))));refine RW.nil ⟨by kernel_rfl,aa.mk (h:= ?_)⟩)
 refine SW.block (SW.qn (nk:=2+3*l.length+(eD l v).length*(1+2)) [9,12] [.ptr 1 0,.ptr 3 0] rfl ⟨rfl,rfl,trivial⟩ fun ca cb hca hcb=> ?_)
 have hLl:=td l v
 let s0:DF 6 3 1:=⟨none,none,fun _ h=>by cases h⟩
 have g5:=fun q=>wT 1 fr to (az l) (.d .aY) q
 have hy:=y6 (y:=6) (fb:=3) (mb:=1) (B:=(eD l v).length) (by decide) (by decide) (by decide) fr to (az l) m hm0 hm1 s0 (by simp [s0,DF.l];omega) hca hcb
 have hO:fH [(4,Ob.box 22 [ops l]),(5,.box 34 v.cells)] (gL (y:=6) (fb:=3) (mb:=1) fr to (az l) m ca cb) s0 7:=by
  refine ⟨by simp,fun n hn=> ?_,fun n hn=> ?_,by simp [Hp.ok,Ob.ok,SV.aF,SV.ok,ag.an],by simp [gL,DF.hp,DF.v,s0,Hp.ok,Ob.ok,SV.aF,SV.ok,g5]⟩
  ·simp only [List.map_cons,List.map_nil,List.mem_cons,List.not_mem_nil,or_false] at hn;omega
  ·simp only [List.map_cons,List.map_nil,List.mem_cons,List.not_mem_nil,or_false] at hn
   rcases hn with rfl | rfl <;> simp [gL,DF.hp,s0,af,bq]
 have hsb:=ri (y:=6) (b:=4) (q:=5) (k:=7) hl.1 hl.2 s0 hy rfl hO
 have hsubF:HSub ((4,.box 22 [ops l])::(5,.box 34 v.cells)::gL (y:=6) (fb:=3) (mb:=1) fr to (az l) m ca cb s0) ((6,.l5 56 [9,12] [.ptr 1 0,.ptr 3 0] [40] ca cb .ready none)::[(4,.box 22 [ops l]),(5,.box 34 v.cells),(3,.box 39 (fe 1 fr to (az l) (.d .aY))),(2,.box 39 jv),(1,.box 3 [i64 m]),(0,.box 34 v.cells)]):=by
  intro n ob hn
  match n with
  | 0 | 2=>simp [gL,DF.hp,s0,af,bq] at hn
  | 1 | 3 | 4 | 5 | 6=>simpa [gL,DF.hp,DF.v,s0,af,bq,jT] using hn
  | n+7=>simp [gL,DF.hp,s0,af,bq] at hn
 have hsc:=(hsb.here (fun n=>n == 1 || n == 3 || n == 4 || n == 5 || n == 6) (fun n hn=> ?_) (by simp [SV.aF,SV.ok]) (by simp [gL,DF.hp,DF.v,s0,Hp.ok,Ob.ok,SV.aF,SV.ok,g5,ag.an]) ?_).frame hsubF
 ·refine hsc.mono ?_
  rintro r F' ⟨F1,⟨rfl,xs,s',hon,hpre,hall,⟨hn0,tY⟩,rfl⟩,rfl⟩
  have hF:=DG hon rfl rfl
  have key:(s'.pe=none∨s'.pe=some (.exit 1))∧s'.l=jb l v m∧(jb l v m=[]→s'.row=none):=by
   obtain ⟨q0,q1,q2⟩:=hF
   refine Classical.byCases (fun h:s'.pe=none=> ?_) fun h=> ?_
   ·obtain ⟨u1,u2⟩:=q1 h
    have hx:xs=eD l v:=hall (by simp [h])
    have hd:jb l v m=xs:=by
     unfold jb
     rw [← hx,Int.toNat_natCast,List.take_of_length_le u2]
    exact ⟨.inl h,by rw [u1,hd],fun h=>q0 (by rw [← hd,h])⟩
   ·obtain ⟨u1,u2,u3⟩:=q2 h
    obtain ⟨t,ht⟩:=hpre
    have hd:jb l v m=xs.take m:=by
     show (aA (eA l v)).take _=_
     rw [← ht,Int.toNat_natCast,List.take_append_of_le_length (by omega)]
    refine ⟨.inr u1,by rw [u2,hd],fun h=> ?_⟩
    rw [hd] at h
    have:=congrArg List.length h
    rw [List.length_take,List.length_nil] at this;omega
  obtain ⟨hpe,gi,hrow⟩:=key
  have hdl:(jb l v m).length<4611686018427387904:=by
   have:(jb l v m).length≤(eD l v).length:=by unfold jb;simp;omega
   omega
  have hdw:∀ x,x∈jb l v m→x.jf:=fun x hx=>by
   have h1:x∈eD l v:=List.mem_of_mem_take hx
   exact hwl x (oy ((aT _).mem_iff.1 h1))
  clear hF hon hpre hall
  obtain ⟨row,pe,hne⟩:=s'
  have hQ2:∀ (Q:Exit→St→Prop) st,Q (.exit 1) st=Q .normal st→Q .normal st→RQ Q pe st:=fun Q st h1 h2=>by
   rcases hpe with h | h <;> (simp only at h;subst h)
   ·exact h2
   ·show Q (.exit 1) st;rw [h1];exact h2
  have hlk:=gO (ro:=false) (h:=(6,.l5 56 [9,12] [.ptr 1 0,.ptr 3 0] [40] ca cb .ready none)::[(4,.box 22 [ops l]),(5,.box 34 v.cells),(3,.box 39 (fe 1 fr to (az l) (.d .aY))),(2,.box 39 jv),(1,.box 3 [i64 m]),(0,.box 34 v.cells)]) (F:=(4,.box 22 [ops l])::(5,.box 34 v.cells)::gL (y:=6) (fb:=3) (mb:=1) fr to (az l) m ca cb s0) (F':=(4,.box 22 [ops l])::(5,.box 34 v.cells)::gL (y:=6) (fb:=3) (mb:=1) fr to (az l) m ca cb ⟨row,pe,hne⟩) hsubF (fun h=>by cases h)
  generalize bn false _ _ _=G at hlk
  have hG:∀ n ob,lk ((4,Ob.box 22 [ops l])::(5,.box 34 v.cells)::gL (y:=6) (fb:=3) (mb:=1) fr to (az l) m ca cb ⟨row,pe,hne⟩) n=some ob→lk G n=some ob:=fun n ob h=>by
   rw [hlk,eE (.inr (by rw [h];simp)),h]
  have hzfr:∀ n len ds,SV.tI n len ds jv=jv:=fun _ _ _=>rfl
  have hG2:lk G 2=some (.box 39 jv):=by
   rw [hlk,dH]
   ·simp [af]
   ·simp [gL,DF.hp,s0,af,bq]
   ·rcases row with _ | ⟨L,rn⟩
    ·simp [gL,DF.hp,af,bq]
    ·obtain ⟨w1,w2,w3⟩:=hne _ rfl
     have:(2:Nat)≠rn:=by simp only at w1;omega
     simp [gL,DF.hp,af,bq,this]
  refine ⟨pe,hG 6 _ (by simp [gL,af]),hQ2 _ _ rfl ?_⟩
  rcases row with _ | ⟨L,rn⟩
  ·have hd:jb l v m=[]:=gi.symm
   have ho:vq (jb l v m)= .aY:=by rw [hd];rfl
   refine SW.weak id (st1:=⟨[(10,.ptr 2 0),(12,.ptr 3 0)],[(2,.box 39 jv),(3,.box 39 (fe 1 fr to (az l) (.d .aY)))],7⟩) (bk.same (Nat.zero_le _) (by simp [bf,List.lookup,SV.aP,SV.ok]) (by simp [Hp.ok,Ob.ok,iq]) fun x hx=> ?_) ?_
   ·simp only [List.mem_cons,List.not_mem_nil,or_false] at hx
    rcases hx with rfl | rfl
    ·rw [cU];simpa using hG2
    ·rw [cU];simpa using hG 3 _ (by simp [gL,DF.v,af])
   rcases hb2:l9 1 fr to (jb l v m) with _ | _
   ·have hm2:=Bt (h:=az l) 3 hb2 (pX _) hdl hdw
    rw [ho] at hm2 ⊢
    refine SW.seq ?_
    (have fx:=(And.intro (z0) (And.intro (z1) (And.intro (z2) (And.intro (z3) (And.intro (g1) (And.intro (g2) (And.intro (g3) (g4))))))));refine SW.au [0,1,2,3,4,8,9,10,11,12,13,14,24,29,39,40,45] mixed ?_;(repeat (first | refine RW.ro fx (h:= ?_) | refine RW.skip (h:= ?_) | refine RW.op fx (h:= ?_) | refine RW.aL fx (h:= ?_) | refine RW.aj (h:= ?_) | (refine RW.aG (h:= ?_);(first | refine ai.mk fx (hc:=hm2 _) (h:= ?_)))));refine RW.nil ⟨by kernel_rfl,aa.mk (h:= ?_)⟩)
    refine SW.ret ?_
    exact End.mk [] (h2:=by simp [fJ,z1]) (h4:=⟨by rw [l_];rfl,rfl⟩)
   ·have hm2:=Bs (h:=az l) 3 hb2 (pX _) hdl hdw
    rw [ho] at hm2 ⊢
    refine SW.seq ?_
    (have fx:=(And.intro (z0) (And.intro (z1) (And.intro (z2) (And.intro (z3) (And.intro (g1) (And.intro (g2) (And.intro (g3) (g4))))))));refine SW.au [0,1,2,3,4,8,9,10,11,12,13,14,24,29,39,40,45] mixed ?_;(repeat (first | refine RW.ro fx (h:= ?_) | refine RW.skip (h:= ?_) | refine RW.op fx (h:= ?_) | refine RW.aL fx (h:= ?_) | refine RW.aj (h:= ?_) | (refine RW.aG (h:= ?_);(first | refine ai.mk fx (hc:=hm2 _) (h:= ?_)))));refine RW.nil ⟨by kernel_rfl,aa.mk (h:= ?_)⟩)
    refine SW.ret ?_
    exact End.mk [] (h2:=by simp [fJ,g1]) (h4:=⟨by rw [l_];rfl,rfl⟩) (h5:=by simp [gI,SV.ok,SV.aF,g3,iq])
  ·have hd:L=jb l v m:=gi
   have hL:L≠[]:=fun h=>by have:=hrow (by rw [← hd,h]);cases this
   have ho:vq (jb l v m)= .sl L.length (L.flatMap ah.ds):=by
    rw [← hd]
    cases L with
    | nil=>exact absurd rfl hL
    | cons x L=>rfl
   obtain ⟨w1,w2,w3⟩:=hne _ rfl
   simp only at w1 w2 w3
   have v1:rn≠6:=by omega
   have v2:(2:Nat)≠rn:=by omega
   have v3:(3:Nat)≠rn:=by omega
   have v4:rn≠4:=by omega
   have v5:rn≠5:=by omega
   refine SW.tU rn (e:=51) (sz:=29) (len:=L.length) (cs:=(L.flatMap ah.ds).map .d) (L.flatMap ah.ds) (by rw [cU];simpa [v1] using hG rn _ (by simp [gL,DF.hp,af,v1,v4,v5,w2,w3])) rfl ?_
   have hfz:∀ ds,SV.tI rn L.length ds (fe 1 fr to (az l) (.gs rn L.length))=fe 1 fr to (az l) (.d (.sl L.length ds)):=fun ds=>by
    simp [fe,SV.tI,SV.kW,ag.cells]
   refine SW.weak id (st1:=⟨[(10,.ptr 2 0),(12,.ptr 3 0)],[(2,.box 39 jv),(3,.box 39 (fe 1 fr to (az l) (.d (.sl L.length (L.flatMap ah.ds)))))],7⟩) (bk.same (Nat.zero_le _) (by simp [bf,gJ,List.lookup,SV.kW,SV.aP,SV.ok]) (by simp [Hp.ok,Ob.ok,iq]) fun x hx=> ?_) ?_
   ·simp only [List.mem_cons,List.not_mem_nil,or_false] at hx
    rcases hx with rfl | rfl
    ·rw [tT,cU,cU];simp [v2,hG2,Ob.kW,hzfr]
    ·have:=hG 3 (.box 39 (fe 1 fr to (az l) (.gs rn L.length))) (by simp [gL,DF.v,af])
     rw [tT,cU,cU];simp [v3,this,Ob.kW,hfz]
   rcases hb2:l9 1 fr to (jb l v m) with _ | _
   ·have hm2:=Bt (h:=az l) 3 hb2 (pX _) hdl hdw
    rw [ho] at hm2 ⊢
    refine SW.seq ?_
    (have fx:=(And.intro (z0) (And.intro (z1) (And.intro (z2) (And.intro (z3) (And.intro (g1) (And.intro (g2) (And.intro (g3) (g4))))))));refine SW.au [0,1,2,3,4,8,9,10,11,12,13,14,24,29,39,40,45] mixed ?_;(repeat (first | refine RW.ro fx (h:= ?_) | refine RW.skip (h:= ?_) | refine RW.op fx (h:= ?_) | refine RW.aL fx (h:= ?_) | refine RW.aj (h:= ?_) | (refine RW.aG (h:= ?_);(first | refine ai.mk fx (hc:=hm2 _) (h:= ?_)))));refine RW.nil ⟨by kernel_rfl,aa.mk (h:= ?_)⟩)
    refine SW.ret ?_
    exact End.mk [] (h2:=by simp [fJ,z1]) (h4:=⟨by rw [l_];rfl,rfl⟩)
   ·have hm2:=Bs (h:=az l) 3 hb2 (pX _) hdl hdw
    rw [ho] at hm2 ⊢
    refine SW.seq ?_
    (have fx:=(And.intro (z0) (And.intro (z1) (And.intro (z2) (And.intro (z3) (And.intro (g1) (And.intro (g2) (And.intro (g3) (g4))))))));refine SW.au [0,1,2,3,4,8,9,10,11,12,13,14,24,29,39,40,45] mixed ?_;(repeat (first | refine RW.ro fx (h:= ?_) | refine RW.skip (h:= ?_) | refine RW.op fx (h:= ?_) | refine RW.aL fx (h:= ?_) | refine RW.aj (h:= ?_) | (refine RW.aG (h:= ?_);(first | refine ai.mk fx (hc:=hm2 _) (h:= ?_)))));refine RW.nil ⟨by kernel_rfl,aa.mk (h:= ?_)⟩)
    refine SW.ret ?_
    exact End.mk [] (h2:=by simp [fJ,g1]) (h4:=⟨by rw [l_];rfl,rfl⟩) (h5:=by simp [gI,SV.ok,SV.aF,g3,iq])
 ·simp only [Bool.or_eq_true,beq_iff_eq] at hn
  rcases hn with (((rfl | rfl) | rfl) | rfl) | rfl <;> simp [gL,af]
 ·rintro r F' ⟨rfl,xs,s',hon,hpre,hall,⟨hn0,tY⟩,rfl⟩ h1 h2
  obtain ⟨row,pe,hne⟩:=s'
  refine ⟨rfl,?_⟩
  have g6:=fun o q=>wT 1 fr to (az l) o q
  rcases row with _ | ⟨L,rn⟩
  ·simp [gL,DF.v,DF.hp,Hp.ok,Ob.ok,SV.aF,SV.ok,g6,ag.an]
  ·obtain ⟨w1,w2,w3⟩:=hne _ rfl
   simp only at w1
   have he:(eD l v).length=(aA (eA l v)).length:=rfl
   have h3:rn<7+(2+3*l.length+(eD l v).length*(1+2)):=by
    simp [gL,DF.v,DF.hp,Hp.ok,Ob.ok,SV.aF,SV.ok,SV.cm,g6,ag.an] at h2
    omega
   simp [gL,DF.v,DF.hp,Hp.ok,Ob.ok,SV.aF,SV.ok,SV.cm,g6,ag.an]
   omega
theorem DH (fr to:Nat)(l:List ah)(v:ag)(most:Int)(q:Nat→Bool):(oB fr to l v most).ok q=true:=by
 unfold oB
 split
 ·simp [SV.ok,SV.aF,iq]
 ·split
  ·simp [SV.ok,SV.aF,iq]
  ·unfold l_
   split <;> simp [SV.ok,SV.aF,iq]
theorem lG (fr to:Nat)(l:List ah)(v:ag)(most:Int)(hl:mB l)(k:Nat):bB Tryz.prog gossip_Delta.f [u8 fr,u8 to,ops l,.agg v.cells,i64 most] [] k 0 (oB fr to l v most) []:=(Bu fr to l v most hl).sc (DH _ _ _ _ _ _) k
end
section
attribute [local irreducible] SW RW bB SC ai aa
def rZ (n m:Int):Int:=if n≤0 then 0 else if m≤0 then n else (n - 1) / m+1
theorem HM {n m:Int}(hn:0<n)(hm:0<m):n / m+(if n % m>0 then 1 else 0)=(n - 1) / m+1:=by
 have h1:=Int.mul_ediv_add_emod n m
 have h2:=Int.emod_nonneg n (show m≠0 by omega)
 have h3:=Int.emod_lt_of_pos n hm
 split
 ·have e:n - 1=(n % m - 1)+m*(n / m):=by omega
  have e2:(n % m - 1) / m=0:=Int.ediv_eq_zero_of_lt (by omega) (by omega)
  rw [e,Int.add_mul_ediv_left _ _ (show m≠0 by omega),e2];omega
 ·have e:n - 1=(m - 1)+m*(n / m - 1):=by rw [Int.mul_sub];omega
  have e2:(m - 1) / m=0:=Int.ediv_eq_zero_of_lt (by omega) (by omega)
  rw [e,Int.add_mul_ediv_left _ _ (show m≠0 by omega),e2];omega
theorem FO {n m:Int}(hn:0<n)(hm:0<m):0≤(n - 1) / m∧(n - 1) / m≤n - 1∧(n - 1) / m*m≤n - 1∧n - 1<(n - 1) / m*m+m:=by
 have h1:=Int.mul_ediv_add_emod (n - 1) m
 have h2:=Int.emod_nonneg (n - 1) (show m≠0 by omega)
 have h3:=Int.emod_lt_of_pos (n - 1) hm
 rw [Int.mul_comm] at h1
 exact ⟨Int.ediv_nonneg (by omega) (by omega),Int.ediv_le_self _ (by omega),by omega,by omega⟩
def EU (n:Int):Prop:= -9223372036854775808≤n∧n≤9223372036854775807
theorem FP (n m:Int)(hn:EU n):Go.Sl.Pure Tryz.prog gossip_Rounds.f [i64 n,i64 m] (i64 (rZ n m)):=by
 obtain ⟨b1,b2⟩:=hn
 refine gossip_Rounds.enter (by first | rfl | simp [SV.ok,SV.aF]) (by first | rfl | simp [Hp.ok,Ob.ok,SV.ok,SV.aF,ag.an]) (by simp) ?_
 dsimp only [gossip_Rounds.s,Co.M,Co.G,Co.J,Co.H,Co.N,Co.F,Co.C,Co.Z,Co.B,Co.b8,Co.aJ,Co.b_,Co.i6,Co.z8,Co.cn]
 refine SW.seq ?_
 (refine SW.au [0,1,4,5,8] mixed ?_;(repeat (first | refine RW.ro U (h:= ?_) | refine RW.skip (h:= ?_) | refine RW.op U (h:= ?_) | refine RW.aL U (h:= ?_) | refine RW.aj (h:= ?_)));refine RW.nil ⟨by kernel_rfl,aa.mk (h:= ?_)⟩)
 unfold rZ
 refine Classical.byCases (fun h1:n≤0=> ?_) fun h1=> ?_
 ·have q1:decide (n≤0)=true:=by simpa using h1
  rw [if_pos h1]
  (repeat (first | refine SW.seq ?_ | refine SW.block ?_ | (refine SW.au [0,1,4,5,8] mixed ?_;(repeat (first | refine RW.ro (q1) (h:= ?_) | refine RW.skip (h:= ?_) | refine RW.op (q1) (h:= ?_) | refine RW.aL (q1) (h:= ?_) | refine RW.aj (h:= ?_)));refine RW.nil ⟨by kernel_rfl,aa.mk (h:= ?_)⟩) | refine SW.skip ?_ | refine SW.exit ?_ | refine SW.ret ?_ | refine SW.aC rfl ?_ | refine SW.ay rfl ?_))
  exact End.mk [] (h4:=⟨rfl,rfl⟩)
 have q1:decide (n≤0)=false:=by simpa using h1
 rw [if_neg h1]
 refine Classical.byCases (fun h2:m≤0=> ?_) fun h2=> ?_
 ·have q2:decide (m≤0)=true:=by simpa using h2
  rw [if_pos h2]
  (repeat (first | refine SW.seq ?_ | refine SW.block ?_ | (refine SW.au [0,1,4,5,8] mixed ?_;(repeat (first | refine RW.ro (And.intro (q1) (q2)) (h:= ?_) | refine RW.skip (h:= ?_) | refine RW.op (And.intro (q1) (q2)) (h:= ?_) | refine RW.aL (And.intro (q1) (q2)) (h:= ?_) | refine RW.aj (h:= ?_)));refine RW.nil ⟨by kernel_rfl,aa.mk (h:= ?_)⟩) | refine SW.skip ?_ | refine SW.exit ?_ | refine SW.ret ?_ | refine SW.aC rfl ?_ | refine SW.ay rfl ?_))
  exact End.mk [] (h4:=⟨rfl,rfl⟩)
 have q2:decide (m≤0)=false:=by simpa using h2
 rw [if_neg h2]
 obtain ⟨r1,r2,r3,r4⟩:=FO (n:=n) (m:=m) (by omega) (by omega)
 have t1:IntKind.i64.wrap (n - 1)=n - 1:=wrap_i64 _ (by omega)
 have t2:(n - 1).tdiv m=(n - 1) / m:=Int.tdiv_eq_ediv_of_nonneg (by omega)
 have t3:IntKind.i64.wrap ((n - 1) / m)=(n - 1) / m:=wrap_i64 _ (by omega)
 have t4:IntKind.i64.wrap ((n - 1) / m+1)=(n - 1) / m+1:=wrap_i64 _ (by omega)
 (repeat (first | refine SW.seq ?_ | refine SW.block ?_ | (have fx:=(And.intro (q1) (And.intro (q2) (And.intro (t1) (And.intro (t2) (And.intro (t3) (t4))))));refine SW.au [0,1,4,5,8] mixed ?_;(repeat (first | refine RW.ro fx (h:= ?_) | refine RW.skip (h:= ?_) | refine RW.op fx (h:= ?_) | refine RW.aL fx (h:= ?_) | refine RW.aj (h:= ?_)));refine RW.nil ⟨by kernel_rfl,aa.mk (h:= ?_)⟩) | refine SW.skip ?_ | refine SW.exit ?_ | refine SW.ret ?_ | refine SW.aC rfl ?_ | refine SW.ay rfl ?_))
 exact End.mk [] (h4:=⟨rfl,rfl⟩)
theorem rj (n m:Int)(hn:EU n)(k:Nat):bB Tryz.prog gossip_Rounds.f [i64 n,i64 m] [] k 0 (i64 (rZ n m)) []:=(FP n m hn).sc rfl k
end
section
attribute [local irreducible] SW RW bB SC ai aa
def vc (a b:Nat):ag:=⟨a,b,0,0,0,0,0,0⟩
def FQ (r n:Nat)(dep:ag)(t:Nat)(ln:DV):ah:=⟨⟨r,n⟩,dep,t,1,⟨r,n⟩,0,⟨0,0⟩,0,0,0,0,⟨0,0⟩,⟨0,0⟩,0,0,0,ln⟩
def EV (ln:DV):ah:=FQ 0 1 ag.zero 1 ln
def xV (ln:DV):ah:=FQ 1 1 (vc 1 0) 2 ln
def Bv (ln:DV):ah:=FQ 0 2 (vc 1 1) 3 ln
def cF (ln:DV):List ah:=[Bv ln,EV ln,xV ln]
abbrev iG:DV:= .sl 0 []
theorem iH:mB (cF iG):=by
 refine ⟨by simp [cF],fun x hx=> ?_⟩
 simp only [cF,List.mem_cons,List.not_mem_nil,or_false] at hx
 have h0:∀ r n dep t,(FQ r n dep t iG).jf:=fun r n dep t=>(ah.jf.of (l:=[]) rfl (by simp)).1
 rcases hx with rfl | rfl | rfl
 ·exact ⟨h0 _ _ _ _,by rw [show (Bv iG).cl=[] from (ah.jf.of (o:=Bv iG) (l:=[]) rfl (by simp)).2];simp,by simp [Bv,FQ,Dt.wf]⟩
 ·exact ⟨h0 _ _ _ _,by rw [show (EV iG).cl=[] from (ah.jf.of (o:=EV iG) (l:=[]) rfl (by simp)).2];simp,by simp [EV,FQ,Dt.wf]⟩
 ·exact ⟨h0 _ _ _ _,by rw [show (xV iG).cl=[] from (ah.jf.of (o:=xV iG) (l:=[]) rfl (by simp)).2];simp,by simp [xV,FQ,Dt.wf]⟩
theorem SC.Ie {P:Program}{f:FuncId}{args:List SV}{F F':Hp}{k nk:Nat}{r r':SV}(h:bB P f args F k nk r F')(hr:∀ (p:Nat→Prop) μ M u,Rp p μ M r u→Rp p μ M r' u):bB P f args F k nk r' F':=by
 unfold bB SC at h ⊢
 refine ⟨h.1,fun p μ M w vals h1 h2 h3=>(h.2 p μ M w vals h1 h2 h3).mono ?_⟩
 rintro e w' ⟨r0,F0,bh,M',u,a,⟨rfl,rfl⟩,b,c⟩
 exact ⟨r',F0,bh,M',u,a,⟨rfl,rfl⟩,hr _ _ _ _ b,c⟩
def nz:DV→DV
 | .aY=> .sl 0 []
 | x=>x
theorem xW {M:Mem}{b:Nat}:∀ (ds:List DV) (o:Nat),cD M b o ds→cD M b o (ds.map nz)
 | [],_,h=>h
 | x::ds,o,h=>by
  simp only [cD,List.map_cons] at h ⊢
  obtain ⟨⟨u,hu,hr⟩,h2⟩:=h
  refine ⟨⟨u,hu,?_⟩,xW ds _ h2⟩
  cases x <;> first | exact hr | exact hr.jo
set_option maxRecDepth 100000 in
theorem Bw {P:Program}{env:List (Nat×SV)}{hp:Hp}{k d p p2 p3:Nat}{r:List SI}{K:St→List (Bool×List Nat)→Prop}{a b c:ah}{z:List SV}(hz:z=vZ++vZ++vZ)
  (ha:env.lookup p=some (.agg a.cells)) (hb:env.lookup p2=some (.agg b.cells)) (hc:env.lookup p3=some (.agg c.cells))
  (h:RW P r ⟨(d,ops [a,b,c])::env,hp,k⟩ fun st' ts=>K st' ((false,[])::ts)):RW P (⟨some d,.nV 51 29 3 z [(0,29,.t p),(29,29,.t p2),(58,29,.t p3)],none⟩::r) ⟨env,hp,k⟩ K:=by
 subst hz
 refine RW.cons (e:=⟨ops [a,b,c],[],[],0,((29=29∧0+29≤87∧29=29∧29+29≤87∧29=29∧58+29≤87∧True))⟩) (fun c_=>⟨.kW::c_,fm (.inl rfl) ?_⟩) (by show 29=29∧0+29≤87∧29=29∧29+29≤87∧29=29∧58+29≤87∧True;decide) ?_
 ·have h1:gM (fun t=>env.lookup t) [(0,29,X.t p),(29,29,X.t p2),(58,29,X.t p3)]=some [(0,29,.agg a.cells),(29,29,.agg b.cells),(58,29,.agg c.cells)]:=by
   simp only [gM,ev,ha,hb,hc]
  have h2:c9 (vZ++vZ++vZ) [(0,29,.agg a.cells),(29,29,.agg b.cells),(58,29,.agg c.cells)]=some (a.cells++b.cells++c.cells,((29=29∧0+29≤87∧29=29∧29+29≤87∧29=29∧58+29≤87∧True))):=rfl
  have h3:bC (a.cells++b.cells++c.cells)=some ([a,b,c].flatMap ah.ds):=rfl
  have h4:(a.cells++b.cells++c.cells).all SV.aZ=true:=rfl
  simp only [bZ,bW,h1,h2,h3,h4,if_true,Bool.false_or]
  rfl
 ·exact h
set_option maxRecDepth 100000 in
theorem y7 {P:Program}{env:List (Nat×SV)}{hp:Hp}{k d p p2:Nat}{r:List SI}{K:St→List (Bool×List Nat)→Prop}{a b:ah}{z:List SV}(hz:z=vZ++vZ)
  (ha:env.lookup p=some (.agg a.cells)) (hb:env.lookup p2=some (.agg b.cells))
  (h:RW P r ⟨(d,ops [a,b])::env,hp,k⟩ fun st' ts=>K st' ((false,[])::ts)):RW P (⟨some d,.nV 51 29 2 z [(0,29,.t p),(29,29,.t p2)],none⟩::r) ⟨env,hp,k⟩ K:=by
 subst hz
 refine RW.cons (e:=⟨ops [a,b],[],[],0,((29=29∧0+29≤58∧29=29∧29+29≤58∧True))⟩) (fun c_=>⟨.kW::c_,fm (.inl rfl) ?_⟩) (by show 29=29∧0+29≤58∧29=29∧29+29≤58∧True;decide) ?_
 ·have h1:gM (fun t=>env.lookup t) [(0,29,X.t p),(29,29,X.t p2)]=some [(0,29,.agg a.cells),(29,29,.agg b.cells)]:=by
   simp only [gM,ev,ha,hb]
  have h2:c9 (vZ++vZ) [(0,29,.agg a.cells),(29,29,.agg b.cells)]=some (a.cells++b.cells,((29=29∧0+29≤58∧29=29∧29+29≤58∧True))):=rfl
  have h3:bC (a.cells++b.cells)=some ([a,b].flatMap ah.ds):=rfl
  have h4:(a.cells++b.cells).all SV.aZ=true:=rfl
  simp only [bZ,bW,h1,h2,h3,h4,if_true,Bool.false_or]
  rfl
 ·exact h
set_option maxHeartbeats 1000000 in
theorem Bx:Go.Sl.Pure Tryz.prog law14_three.f [] (ops (cF .aY)):=by
 refine law14_three.enter (by first | rfl | simp [SV.ok,SV.aF]) (by first | rfl | simp [Hp.ok,Ob.ok,SV.ok,SV.aF,ag.an]) (by simp) ?_
 dsimp only [law14_three.s,Co.M,Co.G,Co.J,Co.H,Co.N,Co.F,Co.C,Co.Z,Co.B,Co.b8,Co.aJ,Co.b_,Co.i6,Co.z8,Co.cn]
 refine SW.seq ?_
 (refine SW.au [0,1,2,3] mixed ?_;(repeat (first | refine RW.ro U (h:= ?_) | refine RW.skip (h:= ?_) | refine RW.op U (h:= ?_) | refine RW.aL U (h:= ?_) | refine RW.aj (h:= ?_) | refine Bw rfl rfl rfl rfl (h:= ?_)));refine RW.nil ⟨by kernel_rfl,aa.mk (h:= ?_)⟩)
 have fA:bV (bV (bV (bV ah.zero.cells 0 (Dt.mk 0 1).cells) 10 [SV.d (.int .u64 1)]) 11 [SV.d (.int .u32 1)]) 12 (Dt.mk 0 1).cells=(EV .aY).cells:=rfl
 have fB:bV (bV (bV (bV (bV ah.zero.cells 0 (Dt.mk 1 1).cells) 2 (vc 1 0).cells) 10 [SV.d (.int .u64 2)]) 11 [SV.d (.int .u32 1)]) 12 (Dt.mk 1 1).cells=(xV .aY).cells:=rfl
 have fC:bV (bV (bV (bV (bV ah.zero.cells 0 (Dt.mk 0 2).cells) 2 (vc 1 1).cells) 10 [SV.d (.int .u64 3)]) 11 [SV.d (.int .u32 1)]) 12 (Dt.mk 0 2).cells=(Bv .aY).cells:=rfl
 have v1:bV ag.zero.cells 0 [SV.d (.int .u32 1)]=(vc 1 0).cells:=rfl
 have v2:bV (vc 1 0).cells 1 [SV.d (.int .u32 1)]=(vc 1 1).cells:=rfl
 have sa:∀ x:ah,bV ah.zero.cells 0 x.cells=x.cells:=fun _=>rfl
 have ta:∀ x:ah,List.take 29 x.cells=x.cells:=fun _=>rfl
 have la:∀ x:ah,x.cells.length=29:=fun _=>rfl
 have oa:∀ x:ah,x.cells.all SV.aZ=true:=fun x=>x.cells_one
 refine SW.seq ?_
 (have fx:=(And.intro (fA) (And.intro (sa) (And.intro (oa) (la))));refine SW.au [0,1,2,3] mixed ?_;(repeat (first | refine RW.ro fx (h:= ?_) | refine RW.skip (h:= ?_) | refine RW.op fx (h:= ?_) | refine RW.aL fx (h:= ?_) | refine RW.aj (h:= ?_) | refine Bw rfl rfl rfl rfl (h:= ?_)));refine RW.nil ⟨by kernel_rfl,aa.mk (h:= ?_)⟩)
 refine SW.seq ?_
 (have fx:=(And.intro (fB) (And.intro (v1) (And.intro (v2) (And.intro (sa) (And.intro (oa) (la))))));refine SW.au [0,1,2,3] mixed ?_;(repeat (first | refine RW.ro fx (h:= ?_) | refine RW.skip (h:= ?_) | refine RW.op fx (h:= ?_) | refine RW.aL fx (h:= ?_) | refine RW.aj (h:= ?_) | refine Bw rfl rfl rfl rfl (h:= ?_)));refine RW.nil ⟨by kernel_rfl,aa.mk (h:= ?_)⟩)
 refine SW.seq ?_
 (have fx:=(And.intro (fC) (And.intro (v1) (And.intro (v2) (And.intro (sa) (And.intro (oa) (la))))));refine SW.au [0,1,2,3] mixed ?_;(repeat (first | refine RW.ro fx (h:= ?_) | refine RW.skip (h:= ?_) | refine RW.op fx (h:= ?_) | refine RW.aL fx (h:= ?_) | refine RW.aj (h:= ?_) | refine Bw rfl rfl rfl rfl (h:= ?_)));refine RW.nil ⟨by kernel_rfl,aa.mk (h:= ?_)⟩)
 refine SW.seq ?_
 (have fx:=(And.intro (ta) (And.intro (oa) (la)));refine SW.au [0,1,2,3] mixed ?_;(repeat (first | refine RW.ro fx (h:= ?_) | refine RW.skip (h:= ?_) | refine RW.op fx (h:= ?_) | refine RW.aL fx (h:= ?_) | refine RW.aj (h:= ?_) | refine Bw rfl rfl rfl rfl (h:= ?_)));refine RW.nil ⟨by kernel_rfl,aa.mk (h:= ?_)⟩)
 refine SW.ret ?_
 exact End.mk [] (h4:=⟨rfl,rfl⟩)
theorem jU (k:Nat):bB Tryz.prog law14_three.f [] [] k 0 (ops (cF iG)) []:=by
 have h0:bB Tryz.prog law14_three.f [] [] k 0 (ops (cF .aY)) []:=Bx.sc rfl k
 refine SC.Ie h0 fun p μ M u hu=> ?_
 rw [Rp.cu] at hu ⊢
 simp only [bT] at hu ⊢
 obtain ⟨A,c,rfl,h1,h2,h3⟩:=hu
 refine ⟨A,c,rfl,h1,fun h=>by simp [cF] at h,fun h=> ?_⟩
 obtain ⟨b,o,rfl,h4⟩:=h3 (by simp [cF])
 exact ⟨b,o,rfl,xW _ o h4⟩
end
section
attribute [local irreducible] SW RW bB SC ai aa
def zZ:DV:= .sl 2 ([EV iG,xV iG].flatMap ah.ds)
theorem uc (l:List ah)(v:ag):eD l v=pW (eA l v):=(wH (q_ l v)).symm
theorem Hw:eD (cF iG) (vc 1 0)=[xV iG,Bv iG]:=by rw [uc];kernel_rfl
theorem Hx:eD (cF iG) (vc 2 1)=[]:=by rw [uc];kernel_rfl
theorem Hy:jb (cF iG) ag.zero 2=[EV iG,xV iG]:=by rw [jb,uc];kernel_rfl
theorem IK:az (cF iG)=vc 2 1:=by decide +kernel
theorem Ig:oB 0 1 (cF iG) ag.zero 2= .cW [.agg (fe 1 0 1 (vc 2 1) (.d zZ)),i64 0]:=by
 unfold oB
 rw [if_neg (by decide),if_neg (by decide),Hy,IK,l_,if_pos (by decide),if_pos (by decide)]
 rfl
theorem Ih:oB 0 0 (cF iG) ag.zero 2= .cW [.agg jv,i64 2]:=by
 unfold oB
 rw [if_pos (by decide)]
theorem Ii:oB 0 1 (cF iG) ag.zero 65= .cW [.agg jv,i64 2]:=by
 unfold oB
 rw [if_neg (by decide),if_pos (by decide)]
theorem GA (k:Nat):bB Tryz.prog gossip_Delta.f [.d (.int .u8 0),.d (.int .u8 1),ops (cF iG),.agg ag.zero.cells,.d (.int .i64 2)] [] k 0 (.cW [.agg (fe 1 0 1 (vc 2 1) (.d zZ)),i64 0]) []:=by
 have h:=lG 0 1 (cF iG) ag.zero 2 iH k
 rw [Ig] at h;exact h
theorem hd2 (k:Nat):bB Tryz.prog gossip_Delta.f [.d (.int .u8 0),.d (.int .u8 0),ops (cF iG),.agg ag.zero.cells,.d (.int .i64 2)] [] k 0 (.cW [.agg jv,i64 2]) []:=by
 have h:=lG 0 0 (cF iG) ag.zero 2 iH k
 rw [Ih] at h;exact h
theorem GB (k:Nat):bB Tryz.prog gossip_Delta.f [.d (.int .u8 0),.d (.int .u8 1),ops (cF iG),.agg ag.zero.cells,.d (.int .i64 65)] [] k 0 (.cW [.agg jv,i64 2]) []:=by
 have h:=lG 0 1 (cF iG) ag.zero 65 iH k
 rw [Ii] at h;exact h
theorem nR (k:Nat):bB Tryz.prog gossip_Lacks.f [ops (cF iG),.agg (vc 1 0).cells] [] k 0 (ops [xV iG,Bv iG]) []:=by
 have h:=vn (vc 1 0) iH k
 rw [Hw] at h;exact h
theorem pR (k:Nat):bB Tryz.prog gossip_Lacks.f [ops (cF iG),.agg (vc 2 1).cells] [] k 0 (.d (.sl 0 [])) []:=by
 have h:=vn (vc 2 1) iH k
 rw [Hx] at h;exact h
theorem vr (x:ah)(h:x∈cF iG):x.jf:=(iH.2 x h).1
theorem GC (k:Nat):bB Tryz.prog ref05_SameAll.f [ops [xV iG,Bv iG],ops [xV iG,Bv iG]] [] k 0 (bl true) []:=
 ja _ (by simp) (fun x hx=> .inr (vr x (by simp only [List.mem_cons,List.not_mem_nil,or_false] at hx;rcases hx with rfl | rfl <;> simp [cF]))) k
theorem GD (k:Nat):bB Tryz.prog ref06_Same.f [.agg (fe 1 0 1 (vc 2 1) (.d zZ)),.agg (fe 1 0 1 (vc 2 1) (.d zZ))] [] k 0 (bl true) []:=
 Br 1 0 1 (vc 2 1) zZ zZ [EV iG,xV iG] (.inr rfl) (.inr rfl) (by simp) (fun x hx=> .inr (vr x (by simp only [List.mem_cons,List.not_mem_nil,or_false] at hx;rcases hx with rfl | rfl <;> simp [cF]))) k
theorem pJ (k:Nat):bB Tryz.prog gossip_Rounds.f [.d (.int .i64 5),.d (.int .i64 2)] [] k 0 (.d (.int .i64 3)) []:=rj 5 2 ⟨by decide,by decide⟩ k
theorem rU (k:Nat):bB Tryz.prog gossip_Rounds.f [.d (.int .i64 4),.d (.int .i64 2)] [] k 0 (.d (.int .i64 2)) []:=rj 4 2 ⟨by decide,by decide⟩ k
theorem GF (k:Nat):bB Tryz.prog gossip_Rounds.f [.d (.int .i64 (-1)),.d (.int .i64 2)] [] k 0 (.d (.int .i64 0)) []:=rj (-1) 2 ⟨by decide,by decide⟩ k
theorem GG (k:Nat):bB Tryz.prog gossip_Rounds.f [.d (.int .i64 3),.d (.int .i64 0)] [] k 0 (.d (.int .i64 3)) []:=rj 3 0 ⟨by decide,by decide⟩ k
set_option maxHeartbeats 2000000 in
theorem DI:Go.Sl.Pure Tryz.prog law14_head.f [] (bl true):=by
 refine law14_head.enter (by first | rfl | simp [SV.ok,SV.aF]) (by first | rfl | simp [Hp.ok,Ob.ok,SV.ok,SV.aF,ag.an]) (by simp) ?_
 dsimp only [law14_head.s,Co.M,Co.G,Co.J,Co.H,Co.N,Co.F,Co.C,Co.Z,Co.B,Co.b8,Co.aJ,Co.b_,Co.i6,Co.z8,Co.cn]
 have z0:jv.all SV.aZ=true:=rfl
 have z1:jv.length=12:=rfl
 have z2:bV jv 0 jv=jv:=rfl
 have z3:List.take 12 jv=jv:=rfl
 have g1:(fe 1 0 1 (vc 2 1) (.d zZ)).length=12:=rfl
 have g2:(fe 1 0 1 (vc 2 1) (.d zZ)).all SV.aZ=true:=rfl
 have g3:List.take 12 (fe 1 0 1 (vc 2 1) (.d zZ))=fe 1 0 1 (vc 2 1) (.d zZ):=rfl
 have g4:bV jv 0 (fe 1 0 1 (vc 2 1) (.d zZ))=fe 1 0 1 (vc 2 1) (.d zZ):=rfl
 have v1:bV ag.zero.cells 0 [SV.d (.int .u32 1)]=(vc 1 0).cells:=rfl
 have v2:bV (bV ag.zero.cells 0 [SV.d (.int .u32 2)]) 1 [SV.d (.int .u32 1)]=(vc 2 1).cells:=rfl
 refine SW.seq ?_
 (refine SW.au [0,1,2,3,5,7] mixed ?_;(repeat (first | refine RW.ro U (h:= ?_) | refine RW.skip (h:= ?_) | refine RW.op U (h:= ?_) | refine RW.aL U (h:= ?_) | refine RW.aj (h:= ?_) | refine y7 rfl rfl rfl (h:= ?_) | (refine RW.aG (h:= ?_);(first | refine ai.mk U (hc:=jU _) (h:= ?_) | refine ai.mk U (hc:=GA _) (h:= ?_) | refine ai.mk U (hc:=hd2 _) (h:= ?_) | refine ai.mk U (hc:=GB _) (h:= ?_) | refine ai.mk U (hc:=nR _) (h:= ?_) | refine ai.mk U (hc:=pR _) (h:= ?_) | refine ai.mk U (hc:=GC _) (h:= ?_) | refine ai.mk U (hc:=GD _) (h:= ?_) | refine ai.mk U (hc:=pJ _) (h:= ?_) | refine ai.mk U (hc:=rU _) (h:= ?_) | refine ai.mk U (hc:=GF _) (h:= ?_) | refine ai.mk U (hc:=GG _) (h:= ?_)))));refine RW.nil ⟨by kernel_rfl,aa.mk (h:= ?_)⟩)
 refine SW.seq ?_
 (refine SW.au [0,1,2,3,5,7] mixed ?_;(repeat (first | refine RW.ro U (h:= ?_) | refine RW.skip (h:= ?_) | refine RW.op U (h:= ?_) | refine RW.aL U (h:= ?_) | refine RW.aj (h:= ?_) | refine y7 rfl rfl rfl (h:= ?_) | (refine RW.aG (h:= ?_);(first | refine ai.mk U (hc:=jU _) (h:= ?_) | refine ai.mk U (hc:=GA _) (h:= ?_) | refine ai.mk U (hc:=hd2 _) (h:= ?_) | refine ai.mk U (hc:=GB _) (h:= ?_) | refine ai.mk U (hc:=nR _) (h:= ?_) | refine ai.mk U (hc:=pR _) (h:= ?_) | refine ai.mk U (hc:=GC _) (h:= ?_) | refine ai.mk U (hc:=GD _) (h:= ?_) | refine ai.mk U (hc:=pJ _) (h:= ?_) | refine ai.mk U (hc:=rU _) (h:= ?_) | refine ai.mk U (hc:=GF _) (h:= ?_) | refine ai.mk U (hc:=GG _) (h:= ?_)))));refine RW.nil ⟨by kernel_rfl,aa.mk (h:= ?_)⟩)
 refine SW.seq ?_
 (have fx:=(And.intro (de) (And.intro (z0) (And.intro (z1) (And.intro (z2) (And.intro (z3) (And.intro (g1) (And.intro (g2) (And.intro (g3) (g4)))))))));refine SW.au [0,1,2,3,5,7] mixed ?_;(repeat (first | refine RW.ro fx (h:= ?_) | refine RW.skip (h:= ?_) | refine RW.op fx (h:= ?_) | refine RW.aL fx (h:= ?_) | refine RW.aj (h:= ?_) | refine y7 rfl rfl rfl (h:= ?_) | (refine RW.aG (h:= ?_);(first | refine ai.mk fx (hc:=jU _) (h:= ?_) | refine ai.mk fx (hc:=GA _) (h:= ?_) | refine ai.mk fx (hc:=hd2 _) (h:= ?_) | refine ai.mk fx (hc:=GB _) (h:= ?_) | refine ai.mk fx (hc:=nR _) (h:= ?_) | refine ai.mk fx (hc:=pR _) (h:= ?_) | refine ai.mk fx (hc:=GC _) (h:= ?_) | refine ai.mk fx (hc:=GD _) (h:= ?_) | refine ai.mk fx (hc:=pJ _) (h:= ?_) | refine ai.mk fx (hc:=rU _) (h:= ?_) | refine ai.mk fx (hc:=GF _) (h:= ?_) | refine ai.mk fx (hc:=GG _) (h:= ?_)))));refine RW.nil ⟨by kernel_rfl,aa.mk (h:= ?_)⟩)
 refine SW.seq ?_
 (have fx:=(And.intro (de) (And.intro (z0) (And.intro (z1) (And.intro (z2) (And.intro (z3) (And.intro (g1) (And.intro (g2) (And.intro (g3) (g4)))))))));refine SW.au [0,1,2,3,5,7] mixed ?_;(repeat (first | refine RW.ro fx (h:= ?_) | refine RW.skip (h:= ?_) | refine RW.op fx (h:= ?_) | refine RW.aL fx (h:= ?_) | refine RW.aj (h:= ?_) | refine y7 rfl rfl rfl (h:= ?_) | (refine RW.aG (h:= ?_);(first | refine ai.mk fx (hc:=jU _) (h:= ?_) | refine ai.mk fx (hc:=GA _) (h:= ?_) | refine ai.mk fx (hc:=hd2 _) (h:= ?_) | refine ai.mk fx (hc:=GB _) (h:= ?_) | refine ai.mk fx (hc:=nR _) (h:= ?_) | refine ai.mk fx (hc:=pR _) (h:= ?_) | refine ai.mk fx (hc:=GC _) (h:= ?_) | refine ai.mk fx (hc:=GD _) (h:= ?_) | refine ai.mk fx (hc:=pJ _) (h:= ?_) | refine ai.mk fx (hc:=rU _) (h:= ?_) | refine ai.mk fx (hc:=GF _) (h:= ?_) | refine ai.mk fx (hc:=GG _) (h:= ?_)))));refine RW.nil ⟨by kernel_rfl,aa.mk (h:= ?_)⟩)
 refine SW.seq ?_
 (have fx:=(And.intro (de) (And.intro (z0) (And.intro (z1) (And.intro (z2) (And.intro (z3) (And.intro (g1) (And.intro (g2) (And.intro (g3) (g4)))))))));refine SW.au [0,1,2,3,5,7] mixed ?_;(repeat (first | refine RW.ro fx (h:= ?_) | refine RW.skip (h:= ?_) | refine RW.op fx (h:= ?_) | refine RW.aL fx (h:= ?_) | refine RW.aj (h:= ?_) | refine y7 rfl rfl rfl (h:= ?_) | (refine RW.aG (h:= ?_);(first | refine ai.mk fx (hc:=jU _) (h:= ?_) | refine ai.mk fx (hc:=GA _) (h:= ?_) | refine ai.mk fx (hc:=hd2 _) (h:= ?_) | refine ai.mk fx (hc:=GB _) (h:= ?_) | refine ai.mk fx (hc:=nR _) (h:= ?_) | refine ai.mk fx (hc:=pR _) (h:= ?_) | refine ai.mk fx (hc:=GC _) (h:= ?_) | refine ai.mk fx (hc:=GD _) (h:= ?_) | refine ai.mk fx (hc:=pJ _) (h:= ?_) | refine ai.mk fx (hc:=rU _) (h:= ?_) | refine ai.mk fx (hc:=GF _) (h:= ?_) | refine ai.mk fx (hc:=GG _) (h:= ?_)))));refine RW.nil ⟨by kernel_rfl,aa.mk (h:= ?_)⟩)
 refine SW.seq ?_
 have x0:=eX (l:=cF iG) (i:=0) (x:=Bv iG) rfl
 have x2:=eX (l:=cF iG) (i:=2) (x:=xV iG) rfl
 have y0:=bQ (l:=cF iG) (i:=0) (x:=Bv iG) rfl
 have y2:=bQ (l:=cF iG) (i:=2) (x:=xV iG) rfl
 have ln:(cF iG).length=3:=rfl
 (have fx:=(And.intro (de) (And.intro (z0) (And.intro (z1) (And.intro (z2) (And.intro (z3) (And.intro (g1) (And.intro (g2) (And.intro (g3) (And.intro (g4) (And.intro (v1) (And.intro (v2) (And.intro (x0) (And.intro (x2) (And.intro (y0) (And.intro (y2) (ln))))))))))))))));refine SW.au [0,1,2,3,5,7] mixed ?_;(repeat (first | refine RW.ro fx (h:= ?_) | refine RW.skip (h:= ?_) | refine RW.op fx (h:= ?_) | refine RW.aL fx (h:= ?_) | refine RW.aj (h:= ?_) | refine y7 rfl rfl rfl (h:= ?_) | (refine RW.aG (h:= ?_);(first | refine ai.mk fx (hc:=jU _) (h:= ?_) | refine ai.mk fx (hc:=GA _) (h:= ?_) | refine ai.mk fx (hc:=hd2 _) (h:= ?_) | refine ai.mk fx (hc:=GB _) (h:= ?_) | refine ai.mk fx (hc:=nR _) (h:= ?_) | refine ai.mk fx (hc:=pR _) (h:= ?_) | refine ai.mk fx (hc:=GC _) (h:= ?_) | refine ai.mk fx (hc:=GD _) (h:= ?_) | refine ai.mk fx (hc:=pJ _) (h:= ?_) | refine ai.mk fx (hc:=rU _) (h:= ?_) | refine ai.mk fx (hc:=GF _) (h:= ?_) | refine ai.mk fx (hc:=GG _) (h:= ?_)))));refine RW.nil ⟨by kernel_rfl,aa.mk (h:= ?_)⟩)
 refine SW.ret ?_
 exact End.mk [] (h4:=⟨rfl,rfl⟩)
theorem pY (k:Nat):bB Tryz.prog law14_head.f [] [] k 0 (bl true) []:=DI.sc rfl k
end
section
attribute [local irreducible] SW RW bB SC ai aa
def DJ (l:List ah):Prop:=l.length≤140737488351232∧∀ x,x∈l→x.jf∧x.cl.length≤140737488351232∧x.dot.wf
def xX (l:List ah):Int:=l.foldl (fun a o=>IntKind.i64.wrap (a+(o.cl.length:Int))) 0
theorem vt (l:List ah)(x:ah):xX (l++[x])=IntKind.i64.wrap (xX l+(x.cl.length:Int)):=by
 unfold xX;rw [List.foldl_append];rfl
def oC (l:List ah):Bool:=decide ((l.length:Int)>120) || decide (xX l>300)
theorem tg {l:List ah}(hl:l.length≤120)(hd:∀ o,o∈l→o.cl.length≤140737488351232):∀ i,i≤l.length→0≤xX (l.take i)∧xX (l.take i)≤i*140737488351232∧∀ j,j<i→∀ o,l[j]? =some o→(o.cl.length:Int)≤xX (l.take i)
 | 0,_=>⟨by simp [xX],by simp [xX],fun j h=>by omega⟩
 | i +1,hi=>by
  obtain ⟨h1,h2,h3⟩:=tg hl hd i (by omega)
  obtain ⟨x,hx⟩:=bR (show i<l.length by omega)
  have k2:=hd x (List.mem_of_getElem? hx)
  have e:xX (l.take (i+1))=xX (l.take i)+(x.cl.length:Int):=by
   rw [eR hx,vt]
   exact wrap_i64 _ (by omega)
  rw [e]
  refine ⟨by omega,by omega,fun j hj o ho=> ?_⟩
  by_cases hji:j=i
  ·subst hji;rw [hx] at ho;cases ho;omega
  ·have:=h3 j (by omega) o ho;omega
theorem ud {l:List ah}(hl:DJ l)(h:oC l=false):l.length≤120∧mB l:=by
 unfold oC at h
 simp only [Bool.or_eq_false_iff,decide_eq_false_iff_not] at h
 have h1:l.length≤120:=by omega
 refine ⟨h1,by omega,fun x hx=>⟨(hl.2 x hx).1,?_,(hl.2 x hx).2.2⟩⟩
 obtain ⟨i,hi,rfl⟩:=List.getElem_of_mem hx
 have:=(tg h1 (fun o ho=>(hl.2 o ho).2.1) l.length (Nat.le_refl _)).2.2 i hi _ (List.getElem?_eq_getElem hi)
 rw [List.take_length] at this
 omega
set_option maxHeartbeats 1000000 in
theorem y8 (l:List ah)(hl:DJ l):Go.Sl.Pure Tryz.prog law14_great.f [ops l] (bl (oC l)):=by
 have nR:=hl.1
 refine law14_great.enter (by first | rfl | simp [SV.ok,SV.aF]) (by first | rfl | simp [Hp.ok,Ob.ok,SV.ok,SV.aF,ag.an]) (by simp) ?_
 dsimp only [law14_great.s,Co.M,Co.G,Co.J,Co.H,Co.N,Co.F,Co.C,Co.Z,Co.B,Co.b8,Co.aJ,Co.b_,Co.i6,Co.z8,Co.cn]
 (repeat (first | refine SW.seq ?_ | refine SW.block ?_ | refine SW.g0 [0,2,3,4,8] mixed U ?_ | refine SW.skip ?_ | refine SW.exit ?_ | refine SW.ret ?_ | refine SW.aC rfl ?_ | refine SW.ay rfl ?_))
 refine SW.fI (α:={i:Nat // i≤l.length}) (fun i=>⟨[(4,i64 i.1),(3,i64 (xX (l.take i.1))),(0,ops l)],[],0⟩) (fun i=>l.length - i.1) ⟨0,by omega⟩ id (And.intro (show xX []=0 from rfl) U) (round:= ?_)
 rintro ⟨i,hi⟩
 dsimp only
 by_cases h:i<l.length
 ·have h1:decide ((i:Int)<l.length)=true:=by simp only [decide_eq_true_eq];omega
  obtain ⟨x,hx⟩:=bR h
  have hxm:=List.mem_of_getElem? hx
  have hxw:=(hl.2 x hxm)
  have e2:IntKind.i64.wrap ((i:Int)+1)=((i+1:Nat):Int):=wrap_i64 _ (by omega)
  have e1:l.take (i+1)=l.take i++[x]:=eR hx
  have hsn:=vt (l.take i) x
  rw [← e1] at hsn
  have e4:(List.map SV.d (l.flatMap ah.ds))[i*29+28]? =some (.d (.sl x.cl.length (x.cl.flatMap Cm.ds))):=by rw [DD hx,hxw.1.eq]
  (repeat (first | refine SW.seq ?_ | refine SW.block ?_ | refine SW.g0 [0,2,3,4,8] mixed (And.intro (h1) (And.intro (bQ hx) (And.intro (e2) (e4)))) ?_ | refine SW.skip ?_ | refine SW.exit ?_ | refine SW.ret ?_ | refine SW.aC rfl ?_ | refine SW.ay rfl ?_))
  dsimp only
  exact ⟨⟨i+1,by omega⟩,id,by show l.length - (i+1)<_;omega,bk.mk (And.intro hsn U)⟩
 ·have h1:decide ((i:Int)<l.length)=false:=by simp only [decide_eq_false_iff_not];omega
  have h2:i=l.length:=by omega
  subst h2
  rw [List.take_length]
  refine SW.seq (SW.seq ?_)
  refine SW.g0 [0,2,3,4,8] mixed (h1) ?_
  refine SW.ay rfl (SW.exit ?_)
  refine SW.seq ?_
  unfold oC
  rcases h3:decide ((l.length:Int)>120) with _ | _
  ·rcases h4:decide (xX l>300) with _ | _
   ·(repeat (first | refine SW.seq ?_ | refine SW.block ?_ | refine SW.g0 [0,2,3,4,8] mixed (And.intro (h3) (h4)) ?_ | refine SW.skip ?_ | refine SW.exit ?_ | refine SW.ret ?_ | refine SW.aC rfl ?_ | refine SW.ay rfl ?_))
    exact End.mk [] (h4:=⟨rfl,rfl⟩)
   ·(repeat (first | refine SW.seq ?_ | refine SW.block ?_ | refine SW.g0 [0,2,3,4,8] mixed (And.intro (h3) (h4)) ?_ | refine SW.skip ?_ | refine SW.exit ?_ | refine SW.ret ?_ | refine SW.aC rfl ?_ | refine SW.ay rfl ?_))
    exact End.mk [] (h4:=⟨rfl,rfl⟩)
  ·(repeat (first | refine SW.seq ?_ | refine SW.block ?_ | refine SW.g0 [0,2,3,4,8] mixed (h3) ?_ | refine SW.skip ?_ | refine SW.exit ?_ | refine SW.ret ?_ | refine SW.aC rfl ?_ | refine SW.ay rfl ?_))
   exact End.mk [] (h4:=⟨rfl,rfl⟩)
theorem y9 (l:List ah)(hl:DJ l)(k:Nat):bB Tryz.prog law14_great.f [ops l] [] k 0 (bl (oC l)) []:=(y8 l hl).sc rfl k
end
end Go.Proofs.YtnakpdoioammhaaGreatDoor
