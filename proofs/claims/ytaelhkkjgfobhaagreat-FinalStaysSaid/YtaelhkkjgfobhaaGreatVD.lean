/-
 Histories: what the document asks of one operation.
-/
import Derived.Test.YtaelhkkjgfobhaaGreatVC
set_option linter.unusedSectionVars false
set_option linter.unusedVariables false
set_option linter.unusedSimpArgs false
namespace Go.Proofs.YtaelhkkjgfobhaaGreat
open Go.Sl Go.Proofs
section
attribute [local irreducible] SW RW aJ SC ai an
theorem qc {l:List ag}{i:Nat}{x:ag}(h:l[i]? =some x):(List.map SV.d (l.flatMap ag.ds))[i*29+10]? =some (.d (.int .u64 x.time)):=by rw [Ez h (by omega)];rfl
theorem oQ {l:List ag}{i:Nat}{x:ag}(h:l[i]? =some x):List.take 8 (List.drop (i*29+2) (List.map SV.d (l.flatMap ag.ds)))=x.dep.cells:=by rw [BP h (by omega)];rfl
theorem j4 {l:List ag}{i:Nat}{x:ag}(h:l[i]? =some x):(i*29+2+8<=(List.map SV.d (l.flatMap ag.ds)).length)=True:=H9 h (by omega)
theorem Bs (a b:aD):Go.Sl.Pure Tryz.prog ref04_Above.f [.agg a.cells,.agg b.cells] (bl (a.above b)):=by
 refine ref04_Above.enter (by first | rfl | simp [SV.ok,SV.ay]) (by first | rfl | simp [Hp.ok,Ob.ok,SV.ok,SV.ay,aD.aq]) (by simp) ?_;dsimp only [ref04_Above.s,Co.M,Co.J,Co.F,Co.Z,Co.B,Co.T,Co.x,Co.Y,Co.V,Co.S];refine SW.seq (SW.g0 [0,1,2,3,4,5,7,16] Zm af ?_);refine SW.seq (SW.seq (SW.g0 [0,1,2,3,4,5,7,16] Zm af ?_));refine SW.block (SW.jU (α:={i:Nat // i<=8/\∀ r,r<i->b.get r<=a.get r}) (λ i=>⟨[(5,i64 i.1),(2,.ptr 0 0),(3,.ptr 1 0)],[(0,.box 39 a.cells),(1,.box 39 b.cells)],2⟩) (λ i=>8 - i.1) ⟨0,by omega,by omega⟩ id af (round:= ?_));rintro ⟨i,hi,hs⟩
 by_cases h:i<8
 .have h1:decide ((i:Int)<8)=true:=by simp;omega
  have e2:IntKind.i64.wrap ((i:Int)+1)=((i+1:Nat):Int):=wrap_i64 _ (by omega);rcases hc:decide (((a.get i:Nat):Int)<((b.get i:Nat):Int)) with _ | _
  ·(repeat (first | refine SW.seq ?_ | refine SW.block ?_ | refine SW.g0 [0,1,2,3,4,5,7,16] Zm (Zq h1 (Zq (a.iQ h) (Zq (b.iQ h) (Zq hc e2)))) ?_ | refine SW.skip ?_ | refine SW.exit ?_ | refine SW.ret ?_ | refine SW.aj rfl ?_ | refine SW.au rfl ?_))
   dsimp only;exact ⟨⟨i+1,by omega,λ r hr=>by
    by_cases hri:r=i
    .subst hri;simp at hc;omega
    .exact hs r (by omega)⟩,id,by show 8 - (i+1)<_;omega,aI.mk af⟩
  ·(repeat (first | refine SW.seq ?_ | refine SW.block ?_ | refine SW.g0 [0,1,2,3,4,5,7,16] Zm (Zq h1 (Zq (a.iQ h) (Zq (b.iQ h) (hc)))) ?_ | refine SW.skip ?_ | refine SW.exit ?_ | refine SW.ret ?_ | refine SW.aj rfl ?_ | refine SW.au rfl ?_))
   have:a.above b=false:=by
    cases hab:a.above b with
    | false=>rfl
    | true=>have:=aD.sG.1 hab i h;simp at hc;omega
   exact End.mk [] (h4:=⟨by rw [this];rfl,rfl⟩)
 .have h1:decide ((i:Int)<8)=false:=by simp;omega
  have:a.above b=true:=aD.sG.2 λ r hr=>hs r (by omega)
  (repeat (first | refine SW.seq ?_ | refine SW.block ?_ | refine SW.g0 [0,1,2,3,4,5,7,16] Zm h1 ?_ | refine SW.skip ?_ | refine SW.exit ?_ | refine SW.ret ?_ | refine SW.aj rfl ?_ | refine SW.au rfl ?_));exact End.mk [] (h4:=⟨by rw [this];rfl,rfl⟩)
theorem qK (a b:aD)(k:Nat):aJ Tryz.prog ref04_Above.f [.agg a.cells,.agg b.cells] [] k 0 (bl (a.above b)) []:=(Bs a b).sc rfl k
open Classical in
noncomputable def yR (l:List ag)(o:ag):Bool:=decide (tA l o)
open Classical in
theorem qd {l:List ag}{o:ag}(h: ¬ tA l o):yR l o=false:=decide_eq_false h
open Classical in
theorem rY {l:List ag}{o:ag}:yR l o=true↔tA l o:=decide_eq_true_iff
set_option maxHeartbeats 4000000 in
theorem LQ (l:List ag)(hl:l.length<=9223372036854775807)(o:ag)(hd:o.dot.wf):Go.Sl.Pure Tryz.prog ref10_one.f [ops l,.agg o.cells] (bl (yR l o)):=by
  have hd2:o.dot.n<4294967296:=hd.2;refine ref10_one.enter (by first | rfl | simp [SV.ok,SV.ay]) (by first | rfl | simp [Hp.ok,Ob.ok,SV.ok,SV.ay,aD.aq]) (by simp) ?_;dsimp only [ref10_one.s,Co.M,Co.G,Co.J,Co.H,Co.F,Co.C,Co.Z,Co.B,Co.b8,Co.aB,Co.T,Co.K,Co.L,Co.Q,Co.x,Co.Y,Co.V,Co.U,Co.D,Co.I,Co.S];refine SW.seq (SW.g0 [0,1,3,4,5,6,30,32,51,55,84] Zm af ?_);have t1:=rX l hl o.dot;have t2:∀ k,aJ Tryz.prog ref10_there.f [ops l,.agg [u8 o.dot.r,u32 (o.dot.n - 1)]] [] k 0 (.d (.int .i64 ((gL l ⟨o.dot.r,o.dot.n - 1⟩:Nat):Int))) []:=rX l hl ⟨o.dot.r,o.dot.n - 1⟩;have cz:=Zq t1 (Zq t2 True.intro);refine SW.seq (SW.seq (SW.gB [0,1,3,4,5,6,30,32,51,55,84] Zm af cz ?_));rcases a1:(((gL l o.dot:Nat):Int) != 1) with _ | _
  rotate_left
  . rw [qd λ h=>by have:=h.self;simp at a1;omega]
    refine RW.gE af cz ?_;refine SW.aj rfl (SW.seq (SW.g2 [0,1,3,4,5,6,30,32,51,55,84] Zm af t1 t2 ?_));refine SW.ret ?_;exact End.mk [] (h4:=⟨rfl,rfl⟩)
  refine RW.gG af cz ?_;have hself:gL l o.dot=1:=by simp at a1;omega
  rcases a2:decide ((o.dot.n:Int)>1) with _ | _
  . have hprev:1<o.dot.n->gL l ⟨o.dot.r,o.dot.n - 1⟩=1:=λ h=>by simp at a2;omega
    refine RW.gE af cz ?_;refine SW.au rfl (SW.skip (SW.seq (SW.seq (SW.g2 [0,1,3,4,5,6,30,32,51,55,84] Zm af t1 t2 ?_))));refine SW.block (SW.jU (α:={i:Nat // i<=8/\∀ r,r<i->0<o.dep.get r->gL l ⟨r,o.dep.get r⟩=1}) (λ i=>⟨[(5,i64 i.1),(3,.ptr 0 0),(0,ops l)],[(0,.box 43 o.cells)],1⟩) (λ i=>8 - i.1) ⟨0,by omega,by omega⟩ id af (round:= ?_));rintro ⟨i,hi,hs⟩
    by_cases h:i<8
    . have h1:decide ((i:Int)<8)=true:=by simp;omega
      have e2:IntKind.i64.wrap ((i:Int)+1)=((i+1:Nat):Int):=wrap_i64 _ (by omega);have e4:IntKind.u8.wrap (i:Int)=(i:Int):=wrap_u8' _ (by omega);have t3:∀ k,aJ Tryz.prog ref10_there.f [ops l,.agg [u8 i,u32 (o.dep.get i)]] [] k 0 (.d (.int .i64 ((gL l ⟨i,o.dep.get i⟩:Nat):Int))) []:=rX l hl ⟨i,o.dep.get i⟩;have cz:=Zq t3 True.intro;refine SW.seq (SW.seq (SW.g1 [0,1,3,4,5,6,30,32,51,55,84] Zm h1 t3 ?_));refine SW.aj rfl (SW.skip (SW.seq (SW.block (SW.seq ?_))));rcases c1:decide ((o.dep.get i:Int)>0) with _ | _
      . refine SW.g1 [0,1,3,4,5,6,30,32,51,55,84] Zm (Zq (jN o h) (Zq c1 e4)) t3 ?_
        refine SW.au rfl (SW.skip ?_);refine SW.g1 [0,1,3,4,5,6,30,32,51,55,84] Zm e2 t3 ?_;dsimp only;exact ⟨⟨i+1,by omega,λ r hr hp=>by
          by_cases hri:r=i
          . subst hri;simp at c1;omega
          . exact hs r (by omega) hp⟩,id,by show 8 - (i+1)<_;omega,aI.mk af⟩
      . rcases c2:(((gL l ⟨i,o.dep.get i⟩:Nat):Int) != 1) with _ | _
        . refine SW.g1 [0,1,3,4,5,6,30,32,51,55,84] Zm (Zq (jN o h) (Zq c1 (Zq c2 e4))) t3 ?_
          refine SW.au rfl (SW.skip ?_);refine SW.g1 [0,1,3,4,5,6,30,32,51,55,84] Zm e2 t3 ?_;dsimp only;exact ⟨⟨i+1,by omega,λ r hr hp=>by
            by_cases hri:r=i
            . subst hri;simp at c2;omega
            . exact hs r (by omega) hp⟩,id,by show 8 - (i+1)<_;omega,aI.mk af⟩
        . rw [qd λ h'=>by have:=h'.deps i h (by simp at c1;omega);simp at c2;omega]
          refine SW.g1 [0,1,3,4,5,6,30,32,51,55,84] Zm (Zq (jN o h) (Zq c1 (Zq c2 e4))) t3 ?_;refine SW.aj rfl (SW.seq (SW.g1 [0,1,3,4,5,6,30,32,51,55,84] Zm af t3 ?_));refine SW.ret ?_;exact End.mk [] (h4:=⟨rfl,rfl⟩)
    have h1:decide ((i:Int)<8)=false:=by simp;omega
    have hdeps:∀ r,r<8->0<o.dep.get r->gL l ⟨r,o.dep.get r⟩=1:=λ r h1 h2=>hs r (by omega) h2
    refine SW.seq (SW.seq (SW.g0 [0,1,3,4,5,6,30,32,51,55,84] Zm h1 ?_));refine SW.au rfl (SW.exit (SW.seq (SW.seq (SW.g0 [0,1,3,4,5,6,30,32,51,55,84] Zm af ?_))));refine SW.block (SW.jU (α:={i:Nat // i<=l.length/\∀ j x,j<i->l[j]? =some x->x.before o=true->x.time<o.time/\o.dep.above x.dep=true}) (λ i=>⟨[(6,i64 i.1),(3,.ptr 0 0),(0,ops l)],[(0,.box 43 o.cells)],1⟩) (λ i=>l.length - i.1) ⟨0,by omega,by omega⟩ id af (round:= ?_));rintro ⟨i,hi,hs⟩
    by_cases h:i<l.length
    . have h1:decide ((i:Int)<l.length)=true:=by simp;exact h
      have e2:IntKind.i64.wrap ((i:Int)+1)=((i+1:Nat):Int):=wrap_i64 _ (by omega);obtain ⟨x,hx⟩:=aZ h;have rb:=u6 x o;have ra:=qK o.dep x.dep;refine SW.seq (SW.seq (SW.g0 [0,1,3,4,5,6,30,32,51,55,84] Zm h1 ?_));refine SW.aj rfl (SW.skip (SW.seq (SW.block (SW.seq ?_))));have good:((x.before o=true->x.time<o.time/\o.dep.above x.dep=true))->∀ j y,j<i+1->l[j]? =some y->y.before o=true->y.time<o.time/\o.dep.above y.dep=true:=λ hg j y hj hy=>by
        by_cases hji:j=i
        . subst hji;rw [hx] at hy;injection hy with hy;subst hy;exact hg
        . exact hs j y (by omega) hy
      have bad: ¬ (x.before o=true->x.time<o.time/\o.dep.above x.dep=true)->yR l o=false:=λ hb=>qd λ h'=>hb (h'.uY x (List.mem_of_getElem? hx))
      rcases g1:x.before o with _ | _ <;> rw [g1] at rb
      . 
        have cz:=Zq rb True.intro;refine SW.g1 [0,1,3,4,5,6,30,32,51,55,84] Zm (Zq (jl hx) (dO hx)) rb ?_;refine SW.au rfl (SW.skip (SW.g1 [0,1,3,4,5,6,30,32,51,55,84] Zm e2 rb ?_));dsimp only;exact ⟨⟨i+1,by omega,good (λ h=>by rw [g1] at h;cases h)⟩,id,by show l.length - (i+1)<_;omega,aI.mk af⟩
      rcases g2:decide ((x.time:Int)>=o.time) with _ | _
      rotate_left
      . rw [bad λ h'=>by have:=(h' g1).1;simp at g2;omega]
        refine SW.g1 [0,1,3,4,5,6,30,32,51,55,84] Zm (Zq (jl hx) (Zq (dO hx) (Zq (qc hx) (Zq (oQ hx) (Zq (j4 hx) (g2)))))) rb ?_;refine SW.aj rfl (SW.seq (SW.g1 [0,1,3,4,5,6,30,32,51,55,84] Zm af rb ?_));refine SW.ret ?_;exact End.mk [] (h4:=⟨rfl,rfl⟩)
      rcases g3:o.dep.above x.dep with _ | _ <;> rw [g3] at ra
      . rw [bad λ h'=>by have:=(h' g1).2;rw [g3] at this;cases this]
        have cz:=Zq rb (Zq ra True.intro);refine SW.g2 [0,1,3,4,5,6,30,32,51,55,84] Zm (Zq (jl hx) (Zq (dO hx) (Zq (qc hx) (Zq (oQ hx) (Zq (j4 hx) (g2)))))) rb ra ?_;refine SW.aj rfl (SW.seq (SW.g2 [0,1,3,4,5,6,30,32,51,55,84] Zm af rb ra ?_));refine SW.ret ?_;exact End.mk [] (h4:=⟨rfl,rfl⟩)
      . refine SW.g2 [0,1,3,4,5,6,30,32,51,55,84] Zm (Zq (jl hx) (Zq (dO hx) (Zq (qc hx) (Zq (oQ hx) (Zq (j4 hx) (g2)))))) rb ra ?_
        refine SW.au rfl (SW.skip (SW.g2 [0,1,3,4,5,6,30,32,51,55,84] Zm e2 rb ra ?_));dsimp only;exact ⟨⟨i+1,by omega,good (λ _=>⟨by simp at g2;omega,g3⟩)⟩,id,by show l.length - (i+1)<_;omega,aI.mk af⟩
    have h1:decide ((i:Int)<l.length)=false:=by simp;omega
    have hone:yR l o=true:=rY.2 ⟨hself,hprev,hdeps,λ a ha hb=>by
      obtain ⟨j,hj⟩:=List.mem_iff_getElem?.1 ha;exact hs j a (by have:=ez hj;omega) hj hb⟩
    rw [hone];(repeat (first | refine SW.seq ?_ | refine SW.block ?_ | refine SW.g0 [0,1,3,4,5,6,30,32,51,55,84] Zm h1 ?_ | refine SW.skip ?_ | refine SW.exit ?_ | refine SW.ret ?_ | refine SW.aj rfl ?_ | refine SW.au rfl ?_));exact End.mk [] (h4:=⟨rfl,rfl⟩)
  . have e3 :IntKind.u32.wrap ((o.dot.n:Int) - 1)=((o.dot.n - 1:Nat):Int):=by simp at a2;rw [wrap_u32' _ (by omega)];omega
    have cz:=Zq t1 (Zq t2 True.intro);refine RW.gG e3 cz ?_;rcases a3:(((gL l ⟨o.dot.r,o.dot.n - 1⟩:Nat):Int) != 1) with _ | _
    rotate_left
    . rw [qd λ h=>by have:=h.prev (by simp at a2;omega);simp at a3;omega]
      refine RW.gE af cz ?_;refine SW.aj rfl (SW.seq (SW.g2 [0,1,3,4,5,6,30,32,51,55,84] Zm af t1 t2 ?_));refine SW.ret ?_;exact End.mk [] (h4:=⟨rfl,rfl⟩)
    have hprev:1<o.dot.n->gL l ⟨o.dot.r,o.dot.n - 1⟩=1:=λ h=>by simp at a3;omega
    refine RW.gE af cz ?_;refine SW.au rfl (SW.skip (SW.seq (SW.seq (SW.g2 [0,1,3,4,5,6,30,32,51,55,84] Zm af t1 t2 ?_))));refine SW.block (SW.jU (α:={i:Nat // i<=8/\∀ r,r<i->0<o.dep.get r->gL l ⟨r,o.dep.get r⟩=1}) (λ i=>⟨[(5,i64 i.1),(3,.ptr 0 0),(0,ops l)],[(0,.box 43 o.cells)],1⟩) (λ i=>8 - i.1) ⟨0,by omega,by omega⟩ id af (round:= ?_));rintro ⟨i,hi,hs⟩
    by_cases h:i<8
    . have h1:decide ((i:Int)<8)=true:=by simp;omega
      have e2:IntKind.i64.wrap ((i:Int)+1)=((i+1:Nat):Int):=wrap_i64 _ (by omega);have e4:IntKind.u8.wrap (i:Int)=(i:Int):=wrap_u8' _ (by omega);have t3:∀ k,aJ Tryz.prog ref10_there.f [ops l,.agg [u8 i,u32 (o.dep.get i)]] [] k 0 (.d (.int .i64 ((gL l ⟨i,o.dep.get i⟩:Nat):Int))) []:=rX l hl ⟨i,o.dep.get i⟩;have cz:=Zq t3 True.intro;refine SW.seq (SW.seq (SW.g1 [0,1,3,4,5,6,30,32,51,55,84] Zm h1 t3 ?_));refine SW.aj rfl (SW.skip (SW.seq (SW.block (SW.seq ?_))));rcases c1:decide ((o.dep.get i:Int)>0) with _ | _
      . refine SW.g1 [0,1,3,4,5,6,30,32,51,55,84] Zm (Zq (jN o h) (Zq c1 e4)) t3 ?_
        refine SW.au rfl (SW.skip ?_);refine SW.g1 [0,1,3,4,5,6,30,32,51,55,84] Zm e2 t3 ?_;dsimp only;exact ⟨⟨i+1,by omega,λ r hr hp=>by
          by_cases hri:r=i
          . subst hri;simp at c1;omega
          . exact hs r (by omega) hp⟩,id,by show 8 - (i+1)<_;omega,aI.mk af⟩
      . rcases c2:(((gL l ⟨i,o.dep.get i⟩:Nat):Int) != 1) with _ | _
        . refine SW.g1 [0,1,3,4,5,6,30,32,51,55,84] Zm (Zq (jN o h) (Zq c1 (Zq c2 e4))) t3 ?_
          refine SW.au rfl (SW.skip ?_);refine SW.g1 [0,1,3,4,5,6,30,32,51,55,84] Zm e2 t3 ?_;dsimp only;exact ⟨⟨i+1,by omega,λ r hr hp=>by
            by_cases hri:r=i
            . subst hri;simp at c2;omega
            . exact hs r (by omega) hp⟩,id,by show 8 - (i+1)<_;omega,aI.mk af⟩
        . rw [qd λ h'=>by have:=h'.deps i h (by simp at c1;omega);simp at c2;omega]
          refine SW.g1 [0,1,3,4,5,6,30,32,51,55,84] Zm (Zq (jN o h) (Zq c1 (Zq c2 e4))) t3 ?_;refine SW.aj rfl (SW.seq (SW.g1 [0,1,3,4,5,6,30,32,51,55,84] Zm af t3 ?_));refine SW.ret ?_;exact End.mk [] (h4:=⟨rfl,rfl⟩)
    have h1:decide ((i:Int)<8)=false:=by simp;omega
    have hdeps:∀ r,r<8->0<o.dep.get r->gL l ⟨r,o.dep.get r⟩=1:=λ r h1 h2=>hs r (by omega) h2
    refine SW.seq (SW.seq (SW.g0 [0,1,3,4,5,6,30,32,51,55,84] Zm h1 ?_));refine SW.au rfl (SW.exit (SW.seq (SW.seq (SW.g0 [0,1,3,4,5,6,30,32,51,55,84] Zm af ?_))));refine SW.block (SW.jU (α:={i:Nat // i<=l.length/\∀ j x,j<i->l[j]? =some x->x.before o=true->x.time<o.time/\o.dep.above x.dep=true}) (λ i=>⟨[(6,i64 i.1),(3,.ptr 0 0),(0,ops l)],[(0,.box 43 o.cells)],1⟩) (λ i=>l.length - i.1) ⟨0,by omega,by omega⟩ id af (round:= ?_));rintro ⟨i,hi,hs⟩
    by_cases h:i<l.length
    . have h1:decide ((i:Int)<l.length)=true:=by simp;exact h
      have e2:IntKind.i64.wrap ((i:Int)+1)=((i+1:Nat):Int):=wrap_i64 _ (by omega);obtain ⟨x,hx⟩:=aZ h;have rb:=u6 x o;have ra:=qK o.dep x.dep;refine SW.seq (SW.seq (SW.g0 [0,1,3,4,5,6,30,32,51,55,84] Zm h1 ?_));refine SW.aj rfl (SW.skip (SW.seq (SW.block (SW.seq ?_))));have good:((x.before o=true->x.time<o.time/\o.dep.above x.dep=true))->∀ j y,j<i+1->l[j]? =some y->y.before o=true->y.time<o.time/\o.dep.above y.dep=true:=λ hg j y hj hy=>by
        by_cases hji:j=i
        . subst hji;rw [hx] at hy;injection hy with hy;subst hy;exact hg
        . exact hs j y (by omega) hy
      have bad: ¬ (x.before o=true->x.time<o.time/\o.dep.above x.dep=true)->yR l o=false:=λ hb=>qd λ h'=>hb (h'.uY x (List.mem_of_getElem? hx))
      rcases g1:x.before o with _ | _ <;> rw [g1] at rb
      . 
        have cz:=Zq rb True.intro;refine SW.g1 [0,1,3,4,5,6,30,32,51,55,84] Zm (Zq (jl hx) (dO hx)) rb ?_;refine SW.au rfl (SW.skip (SW.g1 [0,1,3,4,5,6,30,32,51,55,84] Zm e2 rb ?_));dsimp only;exact ⟨⟨i+1,by omega,good (λ h=>by rw [g1] at h;cases h)⟩,id,by show l.length - (i+1)<_;omega,aI.mk af⟩
      rcases g2:decide ((x.time:Int)>=o.time) with _ | _
      rotate_left
      . rw [bad λ h'=>by have:=(h' g1).1;simp at g2;omega]
        refine SW.g1 [0,1,3,4,5,6,30,32,51,55,84] Zm (Zq (jl hx) (Zq (dO hx) (Zq (qc hx) (Zq (oQ hx) (Zq (j4 hx) (g2)))))) rb ?_;refine SW.aj rfl (SW.seq (SW.g1 [0,1,3,4,5,6,30,32,51,55,84] Zm af rb ?_));refine SW.ret ?_;exact End.mk [] (h4:=⟨rfl,rfl⟩)
      rcases g3:o.dep.above x.dep with _ | _ <;> rw [g3] at ra
      . rw [bad λ h'=>by have:=(h' g1).2;rw [g3] at this;cases this]
        have cz:=Zq rb (Zq ra True.intro);refine SW.g2 [0,1,3,4,5,6,30,32,51,55,84] Zm (Zq (jl hx) (Zq (dO hx) (Zq (qc hx) (Zq (oQ hx) (Zq (j4 hx) (g2)))))) rb ra ?_;refine SW.aj rfl (SW.seq (SW.g2 [0,1,3,4,5,6,30,32,51,55,84] Zm af rb ra ?_));refine SW.ret ?_;exact End.mk [] (h4:=⟨rfl,rfl⟩)
      . refine SW.g2 [0,1,3,4,5,6,30,32,51,55,84] Zm (Zq (jl hx) (Zq (dO hx) (Zq (qc hx) (Zq (oQ hx) (Zq (j4 hx) (g2)))))) rb ra ?_
        refine SW.au rfl (SW.skip (SW.g2 [0,1,3,4,5,6,30,32,51,55,84] Zm e2 rb ra ?_));dsimp only;exact ⟨⟨i+1,by omega,good (λ _=>⟨by simp at g2;omega,g3⟩)⟩,id,by show l.length - (i+1)<_;omega,aI.mk af⟩
    have h1:decide ((i:Int)<l.length)=false:=by simp;omega
    have hone:yR l o=true:=rY.2 ⟨hself,hprev,hdeps,λ a ha hb=>by
      obtain ⟨j,hj⟩:=List.mem_iff_getElem?.1 ha;exact hs j a (by have:=ez hj;omega) hj hb⟩
    rw [hone];(repeat (first | refine SW.seq ?_ | refine SW.block ?_ | refine SW.g0 [0,1,3,4,5,6,30,32,51,55,84] Zm h1 ?_ | refine SW.skip ?_ | refine SW.exit ?_ | refine SW.ret ?_ | refine SW.aj rfl ?_ | refine SW.au rfl ?_));exact End.mk [] (h4:=⟨rfl,rfl⟩)
theorem uU (l:List ag)(hl:l.length<=9223372036854775807)(o:ag)(hd:o.dot.wf)(k:Nat):aJ Tryz.prog ref10_one.f [ops l,.agg o.cells] [] k 0 (bl (yR l o)) []:=(LQ l hl o hd).sc rfl k
end
section
attribute [local irreducible] SW RW aJ SC ai an
theorem xN {n:Int}{l:List ag}(h:n<1\/8<n):mX n l=2:=by unfold mX;rw [if_pos h]
theorem Bt {n:Int}{l:List ag}(h: ¬ (n<1\/8<n))(hf: ¬ ∀ o,o∈l->Go.Sl.Form n.toNat o):mX n l=5:=by unfold mX;rw [if_neg h,if_neg hf]
theorem Bu {n:Int}{l:List ag}(h: ¬ (n<1\/8<n))(hf:∀ o,o∈l->Go.Sl.Form n.toNat o)(ho: ¬ ∀ o,o∈l->tA l o):mX n l=9:=by unfold mX;rw [if_neg h,if_pos hf,if_neg ho]
set_option maxHeartbeats 4000000 in
theorem Bv (l:List ag)(hl:l.length<=9223372036854775807)(n:Int)(hd:∀ o,o∈l->o.dot.wf/\o.kind<256/\o.mW):Go.Sl.Pure Tryz.prog ref10_History.f [ops l,.d (.int .i64 n)] (.d (.int .i64 (mX n l))):=by
 refine ref10_History.enter (by first | rfl | simp [SV.ok,SV.ay]) (by first | rfl | simp [Hp.ok,Ob.ok,SV.ok,SV.ay,aD.aq]) (by simp) ?_;dsimp only [ref10_History.s,Co.M,Co.G,Co.J,Co.H,Co.F,Co.Z,Co.B,Co.K,Co.L,Co.Q,Co.Y,Co.V,Co.O,Co.I,Co.S];refine SW.seq (SW.g0 [0,1,4,5,6,12,16,25,29,38] Zm af ?_);refine SW.seq (SW.seq (SW.gB [0,1,4,5,6,12,16,25,29,38] Zm af True.intro ?_));rcases a1:decide (n<1) with _ | _
 rotate_left
 .rw [xN (.inl (by simpa using a1))]
  refine RW.gE af True.intro ?_;refine SW.aj rfl (SW.seq (SW.g0 [0,1,4,5,6,12,16,25,29,38] Zm af ?_));refine SW.ret ?_;exact End.mk [] (h4:=⟨rfl,rfl⟩)
 refine RW.gG af True.intro ?_;rcases a2:decide (n>8) with _ | _
 rotate_left
 .rw [xN (.inr (by simpa using a2))]
  refine RW.gE af True.intro ?_;refine SW.aj rfl (SW.seq (SW.g0 [0,1,4,5,6,12,16,25,29,38] Zm af ?_));refine SW.ret ?_;exact End.mk [] (h4:=⟨rfl,rfl⟩)
 refine RW.gE af True.intro ?_;refine SW.au rfl (SW.skip ?_);have hn: ¬ (n<1\/8<n):=by simp at a1 a2;omega
 refine SW.seq (SW.seq (SW.g0 [0,1,4,5,6,12,16,25,29,38] Zm af ?_));refine SW.block (SW.jU (α:={i:Nat // i<=l.length/\∀ j x,j<i->l[j]? =some x->Go.Sl.Form n.toNat x}) (λ i=>⟨[(5,i64 i.1),(0,ops l),(1,.d (.int .i64 n))],[],0⟩) (λ i=>l.length - i.1) ⟨0,by omega,by omega⟩ id af (round:= ?_));rintro ⟨i,hi,hs⟩
 by_cases h:i<l.length
 .have h1:decide ((i:Int)<l.length)=true:=by simp;exact h
  have e2:IntKind.i64.wrap ((i:Int)+1)=((i+1:Nat):Int):=wrap_i64 _ (by omega);obtain ⟨x,hx⟩:=aZ h;have hdx:=hd x (List.mem_of_getElem? hx);have ck:=G8 x n hdx.1 hdx.2.1 hdx.2.2;refine SW.seq (SW.seq (SW.g0 [0,1,4,5,6,12,16,25,29,38] Zm h1 ?_));refine SW.aj rfl (SW.skip (SW.seq (SW.block (SW.seq ?_))));rcases c1:(iu n x != 0) with _ | _
  .have hF:Go.Sl.Form n.toNat x:=(eY.1 (by simpa using c1)).2.2
   have cz:=Zq ck True.intro;refine SW.g1 [0,1,4,5,6,12,16,25,29,38] Zm (Zq (jl hx) (Zq (dO hx) (c1))) ck ?_;refine SW.au rfl (SW.skip ?_);refine SW.g1 [0,1,4,5,6,12,16,25,29,38] Zm e2 ck ?_;dsimp only;exact ⟨⟨i+1,by omega,λ j y hj hy=>by
    by_cases hji:j=i
    .subst hji;rw [hx] at hy;injection hy with hy;subst hy;exact hF
    .exact hs j y (by omega) hy⟩,id,by show l.length - (i+1)<_;omega,aI.mk af⟩
  .rw [Bt hn λ hf=>by
    have:=eY.2 ⟨by omega,by omega,hf x (List.mem_of_getElem? hx)⟩;rw [this] at c1;simp at c1]
   refine SW.g1 [0,1,4,5,6,12,16,25,29,38] Zm (Zq (jl hx) (Zq (dO hx) (c1))) ck ?_;refine SW.aj rfl (SW.seq (SW.g1 [0,1,4,5,6,12,16,25,29,38] Zm af ck ?_));refine SW.ret ?_;exact End.mk [] (h4:=⟨rfl,rfl⟩)
 have h1:decide ((i:Int)<l.length)=false:=by simp;omega
 have hf:∀ o,o∈l->Go.Sl.Form n.toNat o:=λ o ho=>by
  obtain ⟨j,hj⟩:=List.mem_iff_getElem?.1 ho;exact hs j o (by have:=ez hj;omega) hj
 refine SW.seq (SW.seq (SW.g0 [0,1,4,5,6,12,16,25,29,38] Zm h1 ?_));refine SW.au rfl (SW.exit (SW.seq (SW.seq (SW.g0 [0,1,4,5,6,12,16,25,29,38] Zm af ?_))));refine SW.block (SW.jU (α:={i:Nat // i<=l.length/\∀ j x,j<i->l[j]? =some x->tA l x}) (λ i=>⟨[(6,i64 i.1),(0,ops l)],[],0⟩) (λ i=>l.length - i.1) ⟨0,by omega,by omega⟩ id af (round:= ?_));clear hs hi h h1;rintro ⟨i,hi,hs⟩
 by_cases h:i<l.length
 .have h1:decide ((i:Int)<l.length)=true:=by simp;exact h
  have e2:IntKind.i64.wrap ((i:Int)+1)=((i+1:Nat):Int):=wrap_i64 _ (by omega);obtain ⟨x,hx⟩:=aZ h;have hdx:=hd x (List.mem_of_getElem? hx);have ck:=uU l hl x hdx.1;refine SW.seq (SW.seq (SW.g0 [0,1,4,5,6,12,16,25,29,38] Zm h1 ?_));refine SW.aj rfl (SW.skip (SW.seq (SW.block (SW.seq ?_))));rcases c1:yR l x with _ | _ <;> rw [c1] at ck
  .rw [Bu hn hf λ ho=>by
    have:=rY.2 (ho x (List.mem_of_getElem? hx));rw [c1] at this;cases this]
   have cz:=Zq ck True.intro;refine SW.g1 [0,1,4,5,6,12,16,25,29,38] Zm (Zq (jl hx) (dO hx)) ck ?_;refine SW.aj rfl (SW.seq (SW.g1 [0,1,4,5,6,12,16,25,29,38] Zm af ck ?_));refine SW.ret ?_;exact End.mk [] (h4:=⟨rfl,rfl⟩)
  .refine SW.g1 [0,1,4,5,6,12,16,25,29,38] Zm (Zq (jl hx) (dO hx)) ck ?_
   refine SW.au rfl (SW.skip ?_);refine SW.g1 [0,1,4,5,6,12,16,25,29,38] Zm e2 ck ?_;dsimp only;exact ⟨⟨i+1,by omega,λ j y hj hy=>by
    by_cases hji:j=i
    .subst hji;rw [hx] at hy;injection hy with hy;subst hy;exact rY.1 c1
    .exact hs j y (by omega) hy⟩,id,by show l.length - (i+1)<_;omega,aI.mk af⟩
 have h1:decide ((i:Int)<l.length)=false:=by simp;omega
 have hV:mX n l=0:=qE.2 ⟨by omega,by omega,hf,λ o ho=>by
  obtain ⟨j,hj⟩:=List.mem_iff_getElem?.1 ho;exact hs j o (by have:=ez hj;omega) hj⟩
 rw [hV];(repeat (first | refine SW.seq ?_ | refine SW.block ?_ | refine SW.g0 [0,1,4,5,6,12,16,25,29,38] Zm h1 ?_ | refine SW.skip ?_ | refine SW.exit ?_ | refine SW.ret ?_ | refine SW.aj rfl ?_ | refine SW.au rfl ?_));exact End.mk [] (h4:=⟨rfl,rfl⟩)
theorem vL (l:List ag)(hl:l.length<=9223372036854775807)(n:Int)(hd:∀ o,o∈l->o.dot.wf/\o.kind<256/\o.mW)(k:Nat):aJ Tryz.prog ref10_History.f [ops l,.d (.int .i64 n)] [] k 0 (.d (.int .i64 (mX n l))) []:=(Bv l hl n hd).sc rfl k
end
end Go.Proofs.YtaelhkkjgfobhaaGreat
