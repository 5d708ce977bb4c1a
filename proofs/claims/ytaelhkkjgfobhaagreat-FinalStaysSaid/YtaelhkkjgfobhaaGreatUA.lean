/-
 Trees of credentials: what stands below them: orders of dots, what vectors cover, what is found in rows.
-/
import Derived.Test.YtaelhkkjgfobhaaGreatU6
import Derived.Test.YtaelhkkjgfobhaaGreatUV
set_option linter.unusedSectionVars false
set_option linter.unusedVariables false
set_option linter.unusedSimpArgs false
namespace Go.Proofs.YtaelhkkjgfobhaaGreat
open Go.Sl Go.Proofs
section
attribute [local irreducible] SW RW aJ SC ai an
def lM (a b:Int):Int:=if a<b then -1 else if a>b then 1 else 0
theorem KI (r n:Int):Go.Sl.Pure Tryz.prog dot_May.f [.agg [.d (.int .u8 r),.d (.int .u32 n)]] (bl (decide (r<8) && decide (n>0))):=by
 refine dot_May.enter (by first | rfl | simp [SV.ok,SV.ay]) (by first | rfl | simp [Hp.ok,Ob.ok,SV.ok,SV.ay,aD.aq]) (by simp) ?_;dsimp only [dot_May.s,Co.M,Co.J,Co.H,Co.F,Co.B,Co.b8,Co.aB,Co.T,Co.x,Co.U,Co.D,Co.S];rcases h1:decide (r<8) with _ | _
 ·(repeat (first | refine SW.seq ?_ | refine SW.block ?_ | refine SW.g0 [0,1,2] Zm h1 ?_ | refine SW.skip ?_ | refine SW.exit ?_ | refine SW.ret ?_ | refine SW.aj rfl ?_ | refine SW.au rfl ?_))
  exact End.mk [] (h4:=⟨rfl,rfl⟩)
 ·(repeat (first | refine SW.seq ?_ | refine SW.block ?_ | refine SW.g0 [0,1,2] Zm h1 ?_ | refine SW.skip ?_ | refine SW.exit ?_ | refine SW.ret ?_ | refine SW.aj rfl ?_ | refine SW.au rfl ?_))
  exact End.mk [] (h4:=⟨rfl,rfl⟩)
theorem Ii (r n:Int):Go.Sl.Pure Tryz.prog ref03_May.f [.agg [.d (.int .u8 r),.d (.int .u32 n)]] (bl (decide (r<=7) && decide (n>=1))):=by
 refine ref03_May.enter (by first | rfl | simp [SV.ok,SV.ay]) (by first | rfl | simp [Hp.ok,Ob.ok,SV.ok,SV.ay,aD.aq]) (by simp) ?_;dsimp only [ref03_May.s,Co.M,Co.J,Co.H,Co.F,Co.B,Co.b8,Co.aB,Co.T,Co.x,Co.U,Co.D,Co.S];rcases h1:decide (r<=7) with _ | _
 ·(repeat (first | refine SW.seq ?_ | refine SW.block ?_ | refine SW.g0 [0,1,2] Zm h1 ?_ | refine SW.skip ?_ | refine SW.exit ?_ | refine SW.ret ?_ | refine SW.aj rfl ?_ | refine SW.au rfl ?_))
  exact End.mk [] (h4:=⟨rfl,rfl⟩)
 ·(repeat (first | refine SW.seq ?_ | refine SW.block ?_ | refine SW.g0 [0,1,2] Zm h1 ?_ | refine SW.skip ?_ | refine SW.exit ?_ | refine SW.ret ?_ | refine SW.aj rfl ?_ | refine SW.au rfl ?_))
  exact End.mk [] (h4:=⟨rfl,rfl⟩)
theorem ym (d:Dt)(k:Nat):aJ Tryz.prog dot_May.f [.agg d.cells] [] k 0 (bl d.may) []:=by
 have:=(KI d.r d.n).sc rfl k;have e:d.may=(decide ((d.r:Int)<8) && decide ((d.n:Int)>0)):=by
  unfold Dt.may;rw [Bool.eq_iff_iff];simp only [Bool.and_eq_true,decide_eq_true_eq];omega
 rw [e];exact this
theorem ug (d:Dt)(k:Nat):aJ Tryz.prog ref03_May.f [.agg d.cells] [] k 0 (bl d.may) []:=by
 have:=(Ii d.r d.n).sc rfl k;have e:d.may=(decide ((d.r:Int)<=7) && decide ((d.n:Int)>=1)):=by
  unfold Dt.may;rw [Bool.eq_iff_iff];simp only [Bool.and_eq_true,decide_eq_true_eq];omega
 rw [e];exact this
theorem CW (v:aD)(d:Dt):Go.Sl.Pure Tryz.prog vector_Covers.f [.agg v.cells,.agg d.cells] (bl (v.aF d)):=by
 refine vector_Covers.enter (by first | rfl | simp [SV.ok,SV.ay]) (by first | rfl | simp [Hp.ok,Ob.ok,SV.ok,SV.ay,aD.aq]) (by simp) ?_;dsimp only [vector_Covers.s,Co.M,Co.J,Co.H,Co.F,Co.B,Co.K,Co.P,Co.x,Co.U,Co.S];rcases h:d.may with _ | _
 ·(repeat (first | refine SW.seq ?_ | refine SW.block ?_ | (refine SW.dL [0,1,2,3,4] Zm ?_;(repeat (first | refine RW.ro h (h:= ?_) | refine RW.skip (h:= ?_) | refine RW.op h (h:= ?_) | refine RW.dQ h (h:= ?_) | refine RW.bF (h:= ?_) | (refine RW.bC (h:= ?_);(first | refine ai.mk (h) (hc:=ym _ _) (h:= ?_) | refine ai.mk (h) (hc:=ug _ _) (h:= ?_)))));refine RW.nil ⟨by kernel_rfl,an.mk (h:= ?_)⟩) | refine SW.skip ?_ | refine SW.exit ?_ | refine SW.ret ?_ | refine SW.aj rfl ?_ | refine SW.au rfl ?_))
  have e:v.aF d=false:=by unfold aD.aF;rw [h];rfl
  exact End.mk [] (h4:=⟨by rw [e];rfl,rfl⟩)
 .have hr:d.r<8:=by
   have:=h;simp only [Dt.may,Bool.and_eq_true,decide_eq_true_eq] at this;exact this.1
  have e:v.aF d=decide ((v.get d.r:Int)>=d.n):=by
   unfold aD.aF;rw [h,Bool.true_and,Bool.eq_iff_iff];simp only [decide_eq_true_eq];omega
  (repeat (first | refine SW.seq ?_ | refine SW.block ?_ | (have fx:=(Zq h (aD.iQ v hr));refine SW.dL [0,1,2,3,4] Zm ?_;(repeat (first | refine RW.ro fx (h:= ?_) | refine RW.skip (h:= ?_) | refine RW.op fx (h:= ?_) | refine RW.dQ fx (h:= ?_) | refine RW.bF (h:= ?_) | (refine RW.bC (h:= ?_);(first | refine ai.mk fx (hc:=ym _ _) (h:= ?_) | refine ai.mk fx (hc:=ug _ _) (h:= ?_)))));refine RW.nil ⟨by kernel_rfl,an.mk (h:= ?_)⟩) | refine SW.skip ?_ | refine SW.exit ?_ | refine SW.ret ?_ | refine SW.aj rfl ?_ | refine SW.au rfl ?_));exact End.mk [] (h4:=⟨by rw [e];rfl,rfl⟩)
theorem AR (v:aD)(d:Dt):Go.Sl.Pure Tryz.prog ref04_Covers.f [.agg v.cells,.agg d.cells] (bl (v.aF d)):=by
 refine ref04_Covers.enter (by first | rfl | simp [SV.ok,SV.ay]) (by first | rfl | simp [Hp.ok,Ob.ok,SV.ok,SV.ay,aD.aq]) (by simp) ?_;dsimp only [ref04_Covers.s,Co.M,Co.J,Co.H,Co.F,Co.B,Co.K,Co.P,Co.x,Co.U,Co.S];rcases h:d.may with _ | _
 ·(repeat (first | refine SW.seq ?_ | refine SW.block ?_ | (refine SW.dL [0,1,2,3,4] Zm ?_;(repeat (first | refine RW.ro h (h:= ?_) | refine RW.skip (h:= ?_) | refine RW.op h (h:= ?_) | refine RW.dQ h (h:= ?_) | refine RW.bF (h:= ?_) | (refine RW.bC (h:= ?_);(first | refine ai.mk (h) (hc:=ym _ _) (h:= ?_) | refine ai.mk (h) (hc:=ug _ _) (h:= ?_)))));refine RW.nil ⟨by kernel_rfl,an.mk (h:= ?_)⟩) | refine SW.skip ?_ | refine SW.exit ?_ | refine SW.ret ?_ | refine SW.aj rfl ?_ | refine SW.au rfl ?_))
  have e:v.aF d=false:=by unfold aD.aF;rw [h];rfl
  exact End.mk [] (h4:=⟨by rw [e];rfl,rfl⟩)
 .have hr:d.r<8:=by
   have:=h;simp only [Dt.may,Bool.and_eq_true,decide_eq_true_eq] at this;exact this.1
  have e:v.aF d=decide ((d.n:Int)<=v.get d.r):=by
   unfold aD.aF;rw [h,Bool.true_and,Bool.eq_iff_iff];simp only [decide_eq_true_eq];omega
  (repeat (first | refine SW.seq ?_ | refine SW.block ?_ | (have fx:=(Zq h (aD.iQ v hr));refine SW.dL [0,1,2,3,4] Zm ?_;(repeat (first | refine RW.ro fx (h:= ?_) | refine RW.skip (h:= ?_) | refine RW.op fx (h:= ?_) | refine RW.dQ fx (h:= ?_) | refine RW.bF (h:= ?_) | (refine RW.bC (h:= ?_);(first | refine ai.mk fx (hc:=ym _ _) (h:= ?_) | refine ai.mk fx (hc:=ug _ _) (h:= ?_)))));refine RW.nil ⟨by kernel_rfl,an.mk (h:= ?_)⟩) | refine SW.skip ?_ | refine SW.exit ?_ | refine SW.ret ?_ | refine SW.aj rfl ?_ | refine SW.au rfl ?_));exact End.mk [] (h4:=⟨by rw [e];rfl,rfl⟩)
theorem pS (v:aD)(d:Dt)(k:Nat):aJ Tryz.prog vector_Covers.f [.agg v.cells,.agg d.cells] [] k 0 (bl (v.aF d)) []:=(CW v d).sc rfl k
theorem nS (v:aD)(d:Dt)(k:Nat):aJ Tryz.prog ref04_Covers.f [.agg v.cells,.agg d.cells] [] k 0 (bl (v.aF d)) []:=(AR v d).sc rfl k
theorem CX (a b:ag):Go.Sl.Pure Tryz.prog order_Before.f [.agg a.cells,.agg b.cells] (bl (a.before b)):=by
 refine order_Before.enter (by first | rfl | simp [SV.ok,SV.ay]) (by first | rfl | simp [Hp.ok,Ob.ok,SV.ok,SV.ay,aD.aq]) (by simp) ?_;dsimp only [order_Before.s,Co.M,Co.J,Co.F,Co.B,Co.K,Co.Q,Co.x,Co.D,Co.S];(repeat (first | refine SW.seq ?_ | refine SW.block ?_ | (refine SW.dL [0,1,2,3,4] Zm ?_;(repeat (first | refine RW.ro af (h:= ?_) | refine RW.skip (h:= ?_) | refine RW.op af (h:= ?_) | refine RW.dQ af (h:= ?_) | refine RW.bF (h:= ?_) | (refine RW.bC (h:= ?_);(first | refine ai.mk af (hc:=pS _ _ _) (h:= ?_) | refine ai.mk af (hc:=nS _ _ _) (h:= ?_)))));refine RW.nil ⟨by kernel_rfl,an.mk (h:= ?_)⟩) | refine SW.skip ?_ | refine SW.exit ?_ | refine SW.ret ?_ | refine SW.aj rfl ?_ | refine SW.au rfl ?_));exact End.mk [] (h4:=⟨rfl,rfl⟩)
theorem AS (a b:ag):Go.Sl.Pure Tryz.prog ref10_Before.f [.agg a.cells,.agg b.cells] (bl (a.before b)):=by
 refine ref10_Before.enter (by first | rfl | simp [SV.ok,SV.ay]) (by first | rfl | simp [Hp.ok,Ob.ok,SV.ok,SV.ay,aD.aq]) (by simp) ?_;dsimp only [ref10_Before.s,Co.M,Co.J,Co.F,Co.B,Co.K,Co.Q,Co.x,Co.D,Co.S];(repeat (first | refine SW.seq ?_ | refine SW.block ?_ | (refine SW.dL [0,1,2,3,4] Zm ?_;(repeat (first | refine RW.ro af (h:= ?_) | refine RW.skip (h:= ?_) | refine RW.op af (h:= ?_) | refine RW.dQ af (h:= ?_) | refine RW.bF (h:= ?_) | (refine RW.bC (h:= ?_);(first | refine ai.mk af (hc:=pS _ _ _) (h:= ?_) | refine ai.mk af (hc:=nS _ _ _) (h:= ?_)))));refine RW.nil ⟨by kernel_rfl,an.mk (h:= ?_)⟩) | refine SW.skip ?_ | refine SW.exit ?_ | refine SW.ret ?_ | refine SW.aj rfl ?_ | refine SW.au rfl ?_));exact End.mk [] (h4:=⟨rfl,rfl⟩)
theorem kP (a b:ag)(k:Nat):aJ Tryz.prog order_Before.f [.agg a.cells,.agg b.cells] [] k 0 (bl (a.before b)) []:=(CX a b).sc rfl k
theorem u6 (a b:ag)(k:Nat):aJ Tryz.prog ref10_Before.f [.agg a.cells,.agg b.cells] [] k 0 (bl (a.before b)) []:=(AS a b).sc rfl k
end
section
section
attribute [local irreducible] SW RW aJ SC ai an
theorem zB:∀ (x y a b:SV),cG (cG [x,y] 0 [a]) 1 [b]=[a,b]:=λ _ _ _ _=>rfl
theorem Ij (l m:List Dt)(hl:l.length<4611686018427387904)(hm:m.length<4611686018427387904):Go.Sl.Pure Tryz.prog ref03_Same.f [bq l,bq m] (bl (decide (l=m))):=by
 refine ref03_Same.enter (by first | rfl | simp [SV.ok,SV.ay]) (by first | rfl | simp [Hp.ok,Ob.ok,SV.ok,SV.ay,aD.aq]) (by simp) ?_;dsimp only [ref03_Same.s,Co.M,Co.J,Co.F,Co.Z,Co.B,Co.K,Co.L,Co.Y,Co.V,Co.I,Co.S]
 by_cases hn:l.length=m.length
 .have h0:(((l.length:Nat):Int) != ((m.length:Nat):Int))=false:=by simp;omega
  (repeat (first | refine SW.seq ?_ | refine SW.block ?_ | refine SW.g0 [0,1,4,5,10,14,25] Zm h0 ?_ | refine SW.skip ?_ | refine SW.exit ?_ | refine SW.ret ?_ | refine SW.aj rfl ?_ | refine SW.au rfl ?_));refine SW.jU (α:={i:Nat // i<=l.length/\∀ j,j<i->l[j]? =m[j]?}) (λ i=>⟨[(5,i64 i.1),(0,bq l),(1,bq m)],[],0⟩) (λ i=>l.length - i.1) ⟨0,by omega,by omega⟩ id af (round:= ?_);rintro ⟨i,hi,hs⟩
  by_cases h:i<l.length
  .have h1:decide ((i:Int)<l.length)=true:=by simp only [decide_eq_true_eq];omega
   obtain ⟨x,hx⟩:=aZ h;obtain ⟨y,hy⟩:=aZ (show i<m.length by omega);have e2:IntKind.i64.wrap ((i:Int)+1)=((i+1:Nat):Int):=wrap_i64 _ (by omega)
   by_cases he:x=y
   .have e3:decide (x=y)=true:=by simp [he]
    (repeat (first | refine SW.seq ?_ | refine SW.block ?_ | refine SW.g0 [0,1,4,5,10,14,25] Zm (Zq h1 (Zq (iq hx) (Zq (iq hy) (Zq e2 e3)))) ?_ | refine SW.skip ?_ | refine SW.exit ?_ | refine SW.ret ?_ | refine SW.aj rfl ?_ | refine SW.au rfl ?_));refine Next.mk ⟨i+1,by omega,λ j hj=> ?_⟩ id af
    by_cases e:j=i
    .rw [e,hx,hy,he]
    .exact hs j (by omega)
   .have e3:decide (x=y)=false:=by simp [he]
    (repeat (first | refine SW.seq ?_ | refine SW.block ?_ | refine SW.g0 [0,1,4,5,10,14,25] Zm (Zq h1 (Zq (iq hx) (Zq (iq hy) (Zq e2 e3)))) ?_ | refine SW.skip ?_ | refine SW.exit ?_ | refine SW.ret ?_ | refine SW.aj rfl ?_ | refine SW.au rfl ?_));have:l≠m:=λ e=>by rw [e,hy] at hx;injection hx with hx;exact he hx.symm
    exact End.mk [] (h4:=⟨by simp [fc,this],rfl⟩)
  .have h1:decide ((i:Int)<l.length)=false:=by simp only [decide_eq_false_iff_not];omega
   (repeat (first | refine SW.seq ?_ | refine SW.block ?_ | refine SW.g0 [0,1,4,5,10,14,25] Zm h1 ?_ | refine SW.skip ?_ | refine SW.exit ?_ | refine SW.ret ?_ | refine SW.aj rfl ?_ | refine SW.au rfl ?_));have:l=m:=Ex hn λ j hj=>hs j (by omega)
   exact End.mk [] (h4:=⟨by simp [fc,this],rfl⟩)
 .have h0:(((l.length:Nat):Int) != ((m.length:Nat):Int))=true:=by simp;omega
  (repeat (first | refine SW.seq ?_ | refine SW.block ?_ | refine SW.g0 [0,1,4,5,10,14,25] Zm h0 ?_ | refine SW.skip ?_ | refine SW.exit ?_ | refine SW.ret ?_ | refine SW.aj rfl ?_ | refine SW.au rfl ?_));have:l≠m:=λ e=>hn (by rw [e])
  exact End.mk [] (h4:=⟨by simp [fc,this],rfl⟩)
theorem yo (l m:List Dt)(hl:l.length<4611686018427387904)(hm:m.length<4611686018427387904)(k:Nat):aJ Tryz.prog ref03_Same.f [bq l,bq m] [] k 0 (bl (decide (l=m))) []:=(Ij l m hl hm).sc rfl k
theorem lW {l:List ag}{i:Nat}{x:ag}(h:l[i]? =some x):List.take 2 (List.drop (i*29) (List.map SV.d (l.flatMap ag.ds)))=x.dot.cells:=by
 have:=BP h (j:=0) (n:=2) (by omega);rw [Nat.add_zero,List.drop_zero] at this;rw [this];rfl
theorem jW {l:List ag}{i:Nat}{x:ag}(h:l[i]? =some x):(i*29+2<=(List.map SV.d (l.flatMap ag.ds)).length)=True:=eq_true (by
 have:=ez h;rw [List.length_map,ja];omega)
end
end
section
section
attribute [local irreducible] SW RW aJ SC ai an
def yp (o:ag):Nat:=match o.lines with
 | .sl n _=>n
 | _=>0
def MK (o:ag):Prop:=∃ n cs,o.lines= .sl n cs/\n<=9223372036854775807
def fW (l:List ag):Nat->Int
 | 0=>0
 | i+1=>IntKind.i64.wrap (fW l i+((l[i]?).map yp).getD 0)
def jH (l:List ag):Bool:=decide (l.length>80) || decide (fW l (min l.length 100)>300)
theorem EM {l:List ag}{i:Nat}{x:ag}(h:l[i]? =some x):(List.map SV.d (l.flatMap ag.ds))[i*29+28]? =some (.d x.lines):=by rw [Ez h (by omega)];rfl
theorem EN (l:List ag)(hl:∀ x,x∈l->MK x)(hlen:l.length<=9223372036854775807):Go.Sl.Pure Tryz.prog ref10_Great.f [ops l] (bl (jH l)):=by
 refine ref10_Great.enter (by first | rfl | simp [SV.ok,SV.ay]) (by first | rfl | simp [Hp.ok,Ob.ok,SV.ok,SV.ay,aD.aq]) (by simp) ?_;dsimp only [ref10_Great.s,Co.M,Co.G,Co.J,Co.H,Co.F,Co.Z,Co.B,Co.T,Co.L,Co.Y,Co.V,Co.U,Co.D,Co.I,Co.S];(repeat (first | refine SW.seq ?_ | refine SW.block ?_ | refine SW.g0 [0,2,3,4,12] Zm af ?_ | refine SW.skip ?_ | refine SW.exit ?_ | refine SW.ret ?_ | refine SW.aj rfl ?_ | refine SW.au rfl ?_));refine SW.jU (α:={i:Nat // i<=l.length/\i<=100}) (λ i=>⟨[(4,i64 i.1),(0,ops l),(3,i64 (fW l i.1))],[],0⟩) (λ i=>100 - i.1) ⟨0,by omega,by omega⟩ id (show fW l 0=0 from rfl) (round:= ?_);rintro ⟨i,hi,hi2⟩
 by_cases h:i<l.length
 .have h1:decide ((i:Int)<l.length)=true:=by simp only [decide_eq_true_eq];omega
  by_cases h2:i<100
  .have h3:decide ((i:Int)<100)=true:=by simp only [decide_eq_true_eq];omega
   obtain ⟨x,hx⟩:=aZ h;obtain ⟨n,cs,hx1,hx2⟩:=hl x (List.mem_of_getElem? hx);have e2:IntKind.i64.wrap ((i:Int)+1)=((i+1:Nat):Int):=wrap_i64 _ (by omega);have e3:IntKind.i64.wrap (fW l i+(n:Int))=fW l (i+1):=by simp [fW,hx,yp,hx1]
   (repeat (first | refine SW.seq ?_ | refine SW.block ?_ | refine SW.g0 [0,2,3,4,12] Zm (Zq h1 (Zq h3 (Zq (EM hx) (Zq hx1 (Zq e2 e3))))) ?_ | refine SW.skip ?_ | refine SW.exit ?_ | refine SW.ret ?_ | refine SW.aj rfl ?_ | refine SW.au rfl ?_));exact Next.mk ⟨i+1,by omega,by omega⟩ id af
  .have h3:decide ((i:Int)<100)=false:=by simp only [decide_eq_false_iff_not];omega
   have h4:decide ((l.length:Int)>80)=true:=by simp only [decide_eq_true_eq];omega
   (repeat (first | refine SW.seq ?_ | refine SW.block ?_ | refine SW.g0 [0,2,3,4,12] Zm (Zq h1 (Zq h3 h4)) ?_ | refine SW.skip ?_ | refine SW.exit ?_ | refine SW.ret ?_ | refine SW.aj rfl ?_ | refine SW.au rfl ?_));have:jH l=true:=by unfold jH;rw [show decide (l.length>80)=true by simp;omega];rfl
   exact End.mk [] (h4:=⟨by rw [this];rfl,rfl⟩)
 .have h1:decide ((i:Int)<l.length)=false:=by simp only [decide_eq_false_iff_not];omega
  have e:min l.length 100=i:=by omega
  rcases h4:decide ((l.length:Int)>80) with _ | _
  ·(repeat (first | refine SW.seq ?_ | refine SW.block ?_ | refine SW.g0 [0,2,3,4,12] Zm (Zq h1 h4) ?_ | refine SW.skip ?_ | refine SW.exit ?_ | refine SW.ret ?_ | refine SW.aj rfl ?_ | refine SW.au rfl ?_))
   have:jH l=decide (fW l i>300):=by
    unfold jH;rw [e,show decide (l.length>80)=false by simp at h4 ⊢;omega];rfl
   exact End.mk [] (h4:=⟨by rw [this];rfl,rfl⟩)
  ·(repeat (first | refine SW.seq ?_ | refine SW.block ?_ | refine SW.g0 [0,2,3,4,12] Zm (Zq h1 h4) ?_ | refine SW.skip ?_ | refine SW.exit ?_ | refine SW.ret ?_ | refine SW.aj rfl ?_ | refine SW.au rfl ?_))
   have:jH l=true:=by unfold jH;rw [show decide (l.length>80)=true by simp at h4 ⊢;omega];rfl
   exact End.mk [] (h4:=⟨by rw [this];rfl,rfl⟩)
theorem EO (l:List ag)(hl:∀ x,x∈l->MK x)(hlen:l.length<=9223372036854775807)(k:Nat):aJ Tryz.prog ref10_Great.f [ops l] [] k 0 (bl (jH l)) []:=(EN l hl hlen).sc rfl k
theorem xq {l:List ag}(h:jH l=false):l.length<=80:=by
 unfold jH at h;simp only [Bool.or_eq_false_iff,decide_eq_false_iff_not] at h;omega
def hasB (r b:Nat):Bool:=decide (r / b % 2=1)
def lE (r o:Nat):Nat->Bool
 | 0=>true
 | i+1=>lE r o i && (!hasB r (2 ^ i) || hasB o (2 ^ i))
def yq (r o:Nat):Bool:=decide (r≠0) && lE r o 8
theorem EP (l:List ag)(hl:l.length<1000000000)(k:Nat):SB Tryz.prog slices_Clone_Lapi_Op_api_Op.f [ops l] [] k 2 (λ r F'=>r= .gs (k+1) l.length/\F'=[(k+1,.arr 43 29 l.length (jL l))]):=by
 refine slices_Clone_Lapi_Op_api_Op.enter (by first | rfl | simp [SV.ok,SV.ay]) (by first | rfl | simp [Hp.ok,Ob.ok,SV.ok,SV.ay,aD.aq]) (by simp) ?_;dsimp only [slices_Clone_Lapi_Op_api_Op.s,Co.M,Co.J,Co.F,Co.S];refine SW.seq (SW.g0 [0,2,4] Zm af ?_);refine SW.seq (SW.seq (SW.MH (n:=l.length) (cs:=l.flatMap ag.ds) rfl ?_ λ h0=> ?_))
 .refine SW.au rfl (SW.skip ?_)
  refine (?_:Sl.SW _ _ _ _ _ _);refine SW.seq ?_;have f1:=b_ (show k≠k+1 by omega);refine SW.g0 [0,2,4] Zm f1 ?_;refine SW.ret ?_;exact End.mk [(k+1,.arr 43 29 l.length (jL l))] (h3:=HSub.cons (by simp [aa]) (HSub.nil _)) (h4:=⟨rfl,rfl⟩) (h5:=by simp [fc,SV.ok]) (h6:=by simp [Hp.ok,Ob.ok,SV.bg])
 .have hl0:l=[]:=List.eq_nil_of_length_eq_zero h0
  subst hl0;refine SW.aj rfl (SW.seq (SW.g0 [0,2,4] Zm af ?_));refine SW.oD 2 43 29 rfl ?_;refine SW.weak (λ n=>if n=k+1 then k else n) (st1:=⟨[(2,.gs (k+1) 0)],[(k+1,.arr 43 29 0 [])],k+2⟩) ?_ ?_
  .refine ⟨by simp,λ n hn=>by simp;omega,?_,?_,?_⟩
   .simp [aL,List.lookup,SV.aA,SV.ok]
   .simp [uK,Ob.aA,Ob.ok,SV.aQ,SV.ay,lk,List.lookup]
   .simp [Ep]
  refine SW.ret ?_;exact End.mk [(k+1,.arr 43 29 0 [])] (h3:=λ _ _ h=>h) (h4:=⟨rfl,rfl⟩) (h5:=by simp [fc,SV.ok]) (h6:=by simp [Hp.ok,Ob.ok,SV.ay])
theorem ER (l:List ag)(hl:l.length<1000000000)(k:Nat):aJ Tryz.prog slices_Clone_Lapi_Op_api_Op.f [ops l] [] k 2 (.gs (k+1) l.length) [(k+1,.arr 43 29 l.length (jL l))]:=by
 unfold aJ;refine (EP l hl k).here (λ _=>false) (λ n h=>by cases h) rfl rfl ?_;rintro x F ⟨rfl,rfl⟩ _ _;simp [SV.ok,Hp.ok,Ob.ok,SV.bg]
end
end
section
section
variable {σ:Type}
def gi (step:σ->ag->σ×Bool):σ->List ag->Option Nat×σ
 | s,[]=>(none,s)
 | s,x::l=>if (step s x).2 then (some 0,(step s x).1) else ((gi step (step s x).1 l).1.map (· +1),(gi step (step s x).1 l).2)
def bM (step:σ->ag->σ×Bool):σ->List ag->List ag×σ
 | s,[]=>([],s)
 | s,x::l=>(if (step s x).2 then (bM step (step s x).1 l).1 else x::(bM step (step s x).1 l).1,(bM step (step s x).1 l).2)
theorem pT (step:σ->ag->σ×Bool):∀ (l:List ag) (s:σ),(bM step s l).1.length<=l.length
 | [],s=>Nat.le_refl _
 | x::l,s=>by
  have:=pT step l (step s x).1;simp only [bM]
  split <;> simp <;> omega
theorem lp {step:σ->ag->σ×Bool}:∀ {l:List ag} {s:σ},(gi step s l).1=none->bM step s l=(l,(gi step s l).2)
 | [],s,_=>rfl
 | x ::l,s,h=>by
  simp only [gi] at h ⊢
  by_cases e:(step s x).2=true
  .rw [if_pos e] at h;cases h
  .rw [if_neg e] at h ⊢
   have h2:(gi step (step s x).1 l).1=none:=by
    cases hh:(gi step (step s x).1 l).1 with
    | none=>rfl
    | some i=>rw [hh] at h;cases h
   simp only [bM];rw [lp h2,if_neg e]
theorem zC {step:σ->ag->σ×Bool}:∀ {l:List ag} {s:σ} {i:Nat},(gi step s l).1=some i->i<l.length/\bM step s l=(l.take i++(bM step (gi step s l).2 (l.drop (i+1))).1,(bM step (gi step s l).2 (l.drop (i+1))).2)
 | [],s,i,h=>by cases h
 | x ::l,s,i,h=>by
  simp only [gi] at h ⊢
  by_cases e:(step s x).2=true
  .rw [if_pos e] at h ⊢
   injection h with h;subst h;simp [bM,e]
  .rw [if_neg e] at h ⊢
   cases hh:(gi step (step s x).1 l).1 with
   | none=>rw [hh] at h;cases h
   | some j=>
    rw [hh] at h;injection h with h;dsimp only at h;subst h;obtain ⟨h1,h2⟩:=zC hh;refine ⟨by simp;omega,?_⟩;simp only [bM];rw [h2,if_neg e];simp
structure xu (P:Program)(g:Nat)(first cap:List SV)(Fh:σ->Hp)(step:σ->ag->σ×Bool)(aP:Nat)(I:Nat->σ->Prop)(G:ag->Prop)(B:Nat):Prop where
 nd:∀ s,((Fh s).map (·.1)).Nodup
 nm:∀ s x,(Fh (step s x).1).map (·.1)=(Fh s).map (·.1)
 nx:∀ i s x,I i s->G x->i<B->I (i+1) (step s x).1
 ok:∀ s x q,(Fh s).ok q=true->(Fh (step s x).1).ok q=true
 call:∀ i s x k,I i s->G x->i<B->(Fh s).ok (λ n=>decide (n<k))=true->aJ P g (first++[.agg x.cells]++cap) (Fh s) k aP (bl (step s x).2) (Fh (step s x).1)
 a1:∀ s q,(Fh s).ok q=true->SV.ay q first=true/\SV.ay q cap=true
end
section
attribute [local irreducible] SW RW aJ SC ai an
variable {σ:Type} {g:Nat} {first cap:List SV} {Fh:σ->Hp} {step:σ->ag->σ×Bool} {aP:Nat} {I:Nat->σ->Prop} {G:ag->Prop} {B:Nat}
def zD (o:Option Nat):SV:=match o with
 | some i=>i64 i
 | none=>i64 (-1)
structure mC (Fh:σ->Hp)(n k:Nat)(s0 s:σ):Prop where
 nm:(Fh s).map (·.1)=(Fh s0).map (·.1)
 ok:(Fh s).ok (λ n=>decide (n<k))=true
 no:lk (Fh s) n=none
theorem mC.mono {n k k':Nat}{s0 s:σ}(h:mC Fh n k s0 s)(hk:k<=k'):mC Fh n k' s0 s:=⟨h.nm,Hp.bw hk h.ok,h.no⟩
theorem mC.next (hd:xu Tryz.prog g first cap Fh step aP I G B){n k:Nat}{s0 s:σ}(h:mC Fh n k s0 s)(x:ag):mC Fh n k s0 (step s x).1:=
 ⟨(hd.nm s x).trans h.nm,hd.ok s x _ h.ok,iL (by rw [hd.nm s x];exact dS h.no)⟩
theorem mC.sQ {n k:Nat}{s0 s:σ}(h:mC Fh n k s0 s)(hn:n<k){e sz len:Nat}(ds:List DV):Hp.ok (λ n=>decide (n<k)) ((n,.arr e sz len (ds.map SV.d))::Fh s)=true:=ak (by simpa using hn) (SV.bg _) h.ok
theorem mC.nd (hd:xu Tryz.prog g first cap Fh step aP I G B){n k:Nat}{s0 s:σ}(h:mC Fh n k s0 s)(o:Ob):(((n,o)::Fh s:Hp).map (·.1)).Nodup:=jM h.no (hd.nd s)
variable (hd:xu Tryz.prog g first cap Fh step aP I G B)
include hd in
set_option maxHeartbeats 1000000 in
theorem CY (l:List ag)(s0:σ)(hl:l.length<1000000000)(hB:l.length<=B)(hG:∀ x,x∈l->G x)(hI:I 0 s0)(n k:Nat)(hn:n<k)(h0:mC Fh n k s0 s0):
  SB Tryz.prog slices_IndexFunc_Lapi_Op_api_Op.f [.gs n l.length,.fn (.func g) first cap] ((n,.arr 43 29 l.length (jL l))::Fh s0) k (l.length*aP)
   (λ r F'=>r=zD (gi step s0 l).1/\F'=(n,.arr 43 29 l.length (jL l))::Fh (gi step s0 l).2):=by
 obtain ⟨o1,o2⟩:=hd.a1 s0 _ h0.ok;refine slices_IndexFunc_Lapi_Op_api_Op.enter (by simp [SV.ok,SV.ay,o1,o2,hn]) (h0.sQ hn _) (by simp) ?_;dsimp only [slices_IndexFunc_Lapi_Op_api_Op.s,Co.M,Co.J,Co.F,Co.Z,Co.K,Co.L,Co.Y,Co.V,Co.I,Co.S];refine SW.seq (SW.g0 [0,1,4,5,7,8,9,16] Zm af ?_);refine SW.seq (SW.seq (SW.g0 [0,1,4,5,7,8,9,16] Zm af ?_));refine SW.block ?_
 refine SW.loop (α:={x:Nat×σ // x.1<=l.length/\I x.1 x.2/\mC Fh n (k+x.1*aP) s0 x.2/\gi step s0 l=((gi step x.2 (l.drop x.1)).1.map (· +x.1),(gi step x.2 (l.drop x.1)).2)})
  (λ x=>⟨[(8,i64 x.1.1),(7,i64 l.length),(0,.gs n l.length),(1,.fn (.func g) first cap)],(n,.arr 43 29 l.length (jL l))::Fh x.1.2,k+x.1.1*aP⟩) (λ x=>l.length - x.1.1)
  ⟨(0,s0),by omega,hI,by simpa using h0,by simp⟩ id ?_ ?_
 .exact aI.same (by simp) (by simp [aL,List.lookup,SV.aA,SV.bP,SV.ok,o1,o2,hn]) (by simpa using h0.sQ hn _) (aH (h0.nd hd _))
 rintro ⟨⟨i,s⟩,hi,hIs,hh,he⟩;dsimp only at hi hIs hh he ⊢;have hkk:k<=k+i*aP:=by omega
 by_cases h:i<l.length
 .have h1:decide ((i:Int)<l.length)=true:=by simp only [decide_eq_true_eq];omega
  obtain ⟨x,hx⟩:=aZ h;have hdr:l.drop i=x::l.drop (i+1):=by
   rw [List.drop_eq_getElem_cons h];rw [List.getElem?_eq_getElem h] at hx;injection hx with hx;rw [hx]
  have e2:IntKind.i64.wrap ((i:Int)+1)=((i+1:Nat):Int):=wrap_i64 _ (by omega);have hc:=hd.call i s x (k+i*aP) hIs (hG x (List.mem_of_getElem? hx)) (by omega) hh.ok;have hs:HSub (Fh s) ((n,.arr 43 29 l.length (jL l))::Fh s):=iC hh.no λ _ _ h=>h
  have hm:cg (cq ((n,Ob.arr 43 29 l.length (jL l))::Fh s) (Fh (step s x).1) (Fh s)) (Fh (step s x).1)=(n,.arr 43 29 l.length (jL l))::Fh (step s x).1:=
   lC (pre:=[(n,.arr 43 29 l.length (jL l))]) (hd.nm s x).symm (hh.nd hd _)
  have hh2:=(hh.next hd x).mono (k':=k+i*aP+aP) (by omega);have hk2:k+i*aP+aP=k+(i+1)*aP:=by rw [Nat.succ_mul];omega
  rw [hdr] at he;simp only [gi] at he;refine SW.seq (SW.g0 [0,1,4,5,7,8,9,16] Zm h1 ?_);refine SW.seq (SW.aj rfl (SW.skip ?_));refine (?_:Sl.SW _ _ _ _ _ _);refine SW.seq (SW.block (SW.seq (SW.g0 [0,1,4,5,7,8,9,16] Zm af ?_)));refine SW.seq ?_;rcases hb:(step s x).2 with _ | _
  .rw [hb] at hc
   refine SW.g1 [0,1,4,5,7,8,9,16] Zm (Zq (jl hx) (Zq (dO hx) (hm))) (Zq hs hc) ?_;refine SW.au rfl (SW.skip (SW.g0 [0,1,4,5,7,8,9,16] Zm e2 ?_));rw [if_neg (by rw [hb];simp)] at he;have hh3:mC Fh n (k+(i+1)*aP) s0 (step s x).1:=by rw [<- hk2];exact hh2
   refine ⟨⟨(i+1,(step s x).1),by dsimp only;omega,hd.nx i s x hIs (hG x (List.mem_of_getElem? hx)) (by omega),hh3,?_⟩,id,by simp;omega,?_⟩
   .rw [he]
    simp only [Option.map_map]
    congr 2
    funext j
    simp only [Function.comp];omega
   .exact aI.same (by simp) (by simp [aL,List.lookup,SV.aA,SV.bP,SV.ok];exact ⟨by omega,(hd.a1 s0 _ (Hp.bw (by omega) h0.ok)).1,(hd.a1 s0 _ (Hp.bw (by omega) h0.ok)).2⟩) (hh3.sQ (by omega) _) (aH (hh3.nd hd _))
  .rw [hb] at hc
   refine SW.g1 [0,1,4,5,7,8,9,16] Zm (Zq (jl hx) (Zq (dO hx) (hm))) (Zq hs hc) ?_;refine SW.aj rfl (SW.seq ?_);have:k+i*aP+aP<=k+l.length*aP:=by
    have:=Nat.mul_le_mul_right aP (show i+1<=l.length by omega);omega
   refine SW.weak id (st1:=⟨[(5,i64 i)],(n,.arr 43 29 l.length (jL l))::Fh (step s x).1,k+l.length*aP⟩) (aI.same (by simp) (by simp [aL,List.lookup,SV.aA,SV.ok]) ((hh2.mono this).sQ (by omega) _) (aH (hh2.nd hd _))) ?_;refine SW.g0 [0,1,4,5,7,8,9,16] Zm af ?_;rw [if_pos (by rw [hb])] at he;refine SW.ret ?_;rw [he];exact End.mk ((n,.arr 43 29 l.length (jL l))::Fh (step s x).1) (h3:=λ _ _ h=>h) (h4:=⟨by simp [fc,zD],rfl⟩) (h6:=(hh2.mono this).sQ (by omega) _)
 .have h1:decide ((i:Int)<l.length)=false:=by simp only [decide_eq_false_iff_not];omega
  have e:i=l.length:=by omega
  subst e;rw [List.drop_length] at he;refine SW.seq (SW.g0 [0,1,4,5,7,8,9,16] Zm h1 ?_);refine SW.seq (SW.au rfl (SW.exit ?_));refine (?_:Sl.SW _ _ _ _ _ _);refine SW.seq (SW.g0 [0,1,4,5,7,8,9,16] Zm af ?_);refine SW.ret ?_;rw [he];exact End.mk ((n,.arr 43 29 l.length (jL l))::Fh s) (h3:=λ _ _ h=>h) (h4:=⟨rfl,rfl⟩) (h6:=(hh.mono (by omega)).sQ (by omega) _)
include hd in
theorem yt {q:Nat->Bool}:∀ (l:List ag) (s:σ),(Fh s).ok q=true->(Fh (gi step s l).2).ok q=true
 | [],s,h=>h
 | x::l,s,h=>by
  simp only [gi]
  split
  .exact hd.ok s x q h
  .exact yt l _ (hd.ok s x q h)
include hd in
theorem zF {q:Nat->Bool}:∀ (l:List ag) (s:σ),(Fh s).ok q=true->(Fh (bM step s l).2).ok q=true
 | [],s,h=>h
 | x::l,s,h=>zF l _ (hd.ok s x q h)
include hd in
theorem uh:∀ (l:List ag) (s:σ),(Fh (gi step s l).2).map (·.1)=(Fh s).map (·.1)
 | [],s=>rfl
 | x::l,s=>by
  simp only [gi]
  split
  .exact hd.nm s x
  .exact (uh l _).trans (hd.nm s x)
include hd in
theorem ES:∀ (l:List ag) (s:σ) (i:Nat),(∀ x,x∈l->G x)->i+l.length<=B->I i s->∀ j,(gi step s l).1=some j->I (i+j+1) (gi step s l).2
 | [],s,i,_,_,_,j,h=>by cases h
 | x ::l,s,i,hG,hB,hi,j,h=>by
  simp only [List.length_cons] at hB;simp only [gi] at h ⊢
  by_cases e:(step s x).2=true
  .rw [if_pos e] at h ⊢
   injection h with h;subst h;exact hd.nx i s x hi (hG x (by simp)) (by omega)
  .rw [if_neg e] at h ⊢
   cases hh:(gi step (step s x).1 l).1 with
   | none=>rw [hh] at h;cases h
   | some q=>
    rw [hh] at h;injection h with h;dsimp only at h;subst h;have:=ES l (step s x).1 (i+1) (λ y hy=>hG y (List.mem_cons_of_mem _ hy)) (by omega) (hd.nx i s x hi (hG x (by simp)) (by omega)) q hh
    rwa [show i+(q+1)+1=i+1+q+1 by omega]
theorem yu {n:Nat}{s:σ}{o:Ob}(ho:∀ q,o.ok q=true)(mO:(Fh s).ok (λ m=>(lk (Fh s) m).isSome)=true)(hno:lk (Fh s) n=none):Hp.ok (λ m=>(lk ((n,o)::Fh s) m).isSome) ((n,o)::Fh s)=true:=by
 refine ak (by simp [aa]) (ho _) (Hp.dH (λ m hm=> ?_) mO);rw [aa]
 split
 .rfl
 .exact hm
include hd in
theorem CZ (l:List ag)(s0:σ)(hl:l.length<1000000000)(hB:l.length<=B)(hG:∀ x,x∈l->G x)(hI:I 0 s0)(n k:Nat)(hn:n<k)(h0:mC Fh n k s0 s0)(mO:(Fh s0).ok (λ m=>(lk (Fh s0) m).isSome)=true):
  aJ Tryz.prog slices_IndexFunc_Lapi_Op_api_Op.f [.gs n l.length,.fn (.func g) first cap] ((n,.arr 43 29 l.length (jL l))::Fh s0) k (l.length*aP) (zD (gi step s0 l).1) ((n,.arr 43 29 l.length (jL l))::Fh (gi step s0 l).2):=by
 unfold aJ;have hq:=yu (n:=n) (o:= .arr 43 29 l.length (jL l)) (λ q=>SV.bg _) mO h0.no;have hq0:(Fh s0).ok (λ m=>(lk ((n,Ob.arr 43 29 l.length (jL l))::Fh s0) m).isSome)=true:=by
  simp only [Hp.ok,List.all_cons,Bool.and_eq_true] at hq ⊢;exact hq.2
 obtain ⟨o1,o2⟩:=hd.a1 s0 _ hq0;refine (CY hd l s0 hl hB hG hI n k hn h0).here (λ m=>(lk ((n,Ob.arr 43 29 l.length (jL l))::Fh s0) m).isSome) (λ m h e=>by rw [e] at h;cases h) (by simp only [SV.ay,SV.ok,o1,o2,Bool.and_true];simp [aa]) hq ?_;rintro x F ⟨rfl,rfl⟩ _ _;refine ⟨by unfold zD;split <;> rfl,?_⟩;have:=yt hd l s0 hq0;exact ak (by simp [aa]) (SV.bg _) (Hp.dH (λ m hm=>by rw [hm];rfl) this)
end
end
section
theorem zG {α:Type}{l:List α}{w:Nat}{x:α}(h:w<l.length):(l.set w x).take (w+1)=l.take w++[x]:=by
 rw [dB (x:=x) (by simp [h]),List.take_set_of_le (Nat.le_refl _)]
theorem set_drop {α:Type}{l:List α}{w j:Nat}{x:α}(h:w<j):(l.set w x).drop j=l.drop j:=by
 rw [List.drop_set_of_lt h]
theorem drop_cons {α:Type}{l:List α}{i:Nat}{x:α}(hx:l[i]? =some x):l.drop i=x::l.drop (i+1):=by
 have h:=ez hx;rw [List.drop_eq_getElem_cons h];rw [List.getElem?_eq_getElem h] at hx;injection hx with hx;rw [hx]
theorem zH {α:Type}{l m:List α}{j:Nat}{x:α}(h:l.drop j=m.drop j)(hx:m[j]? =some x):l[j]? =some x:=by
 have h1:(l.drop j)[0]? =l[j]? :=by simp
 have h2:(m.drop j)[0]? =m[j]? :=by simp
 rw [<- h1,h,h2];exact hx
theorem xw {α:Type}{l m:List α}{j:Nat}(h:l.drop j=m.drop j):l.drop (j+1)=m.drop (j+1):=by
 have:∀ q:List α,q.drop (j+1)=(q.drop j).drop 1:=λ q=>by rw [List.drop_drop]
 rw [this,this,h]
theorem ET (cur:List ag)(w m:Nat)(z:List SV)(hz:z.length=29)(hw:w+m=cur.length):(cG (jL cur) (w*29) ((List.replicate m z).flatten)).take (w*29)=jL (cur.take w):=by
 have hl:((List.replicate m z).flatten).length=m*29:=by simp [hz]
 have hc:(jL cur).length=cur.length*29:=by rw [List.length_map,ja]
 rw [qv (by rw [hl,hc,<- hw,Nat.add_mul];exact Nat.le_refl _),List.append_assoc,List.take_append_of_le_length (by rw [List.length_take,hc,<- hw,Nat.add_mul];omega),List.take_of_length_le (by rw [List.length_take];omega)];show ((cur.flatMap ag.ds).map SV.d).take (w*29)=_;rw [<- List.map_take]
 congr 1
 conv=>lhs;rw [<- List.take_append_drop w cur]
 rw [List.flatMap_append,List.take_append_of_le_length,List.take_of_length_le]
 .rw [ja,List.length_take];exact Nat.mul_le_mul_right 29 (Nat.min_le_left _ _)
 .rw [ja,List.length_take,Nat.min_eq_left (by omega)];exact Nat.le_refl _
section
attribute [local irreducible] SW RW aJ SC ai an
variable {σ:Type} {g:Nat} {first cap:List SV} {Fh:σ->Hp} {step:σ->ag->σ×Bool} {aP:Nat} {I:Nat->σ->Prop} {G:ag->Prop} {B:Nat}
variable (hd:xu Tryz.prog g first cap Fh step aP I G B)
include hd in
set_option maxHeartbeats 4000000 in
theorem AT (l : List ag)(s0:σ)(hl:l.length<1000000000)(hB:l.length<=B)(hG:∀ x,x∈l->G x)(hI:I 0 s0)(n k:Nat)(hn:n<k)(h0:mC Fh n k s0 s0)(mO:(Fh s0).ok (λ m=>(lk (Fh s0) m).isSome)=true):
    SB Tryz.prog slices_DeleteFunc_Lapi_Op_api_Op.f [.gs n l.length,.fn (.func g) first cap] ((n,.arr 43 29 l.length (jL l))::Fh s0) k (l.length*aP+l.length*(aP+1))
      (λ r F'=>r= .gs n (bM step s0 l).1.length/\F'=(n,.arr 43 29 (bM step s0 l).1.length (jL (bM step s0 l).1))::Fh (bM step s0 l).2):=by
  obtain ⟨o1,o2⟩:=hd.a1 s0 _ h0.ok;have ok1:∀ kx,k<=kx->SV.ay (λ n=>decide (n<kx)) first=true/\SV.ay (λ n=>decide (n<kx)) cap=true:=λ kx hx=>hd.a1 s0 _ (Hp.bw hx h0.ok)
  refine slices_DeleteFunc_Lapi_Op_api_Op.enter (by simp [SV.ok,SV.ay,o1,o2,hn]) (h0.sQ hn _) (by simp) ?_;dsimp only [slices_DeleteFunc_Lapi_Op_api_Op.s,Co.M,Co.J,Co.N,Co.F,Co.bW,Co.K,Co.L,Co.Q,Co.W,Co.Y,Co.V,Co.O,Co.I,Co.S];have hx:=CZ hd l s0 hl hB hG hI n k hn h0 mO;have hm0:cg (cq ((n,Ob.arr 43 29 l.length (jL l))::Fh s0) ((n,Ob.arr 43 29 l.length (jL l))::Fh (gi step s0 l).2) (Fh s0)) (Fh (gi step s0 l).2)=(n,Ob.arr 43 29 l.length (jL l))::Fh (gi step s0 l).2:=
    sP (uh hd l s0).symm (h0.nd hd _)
  have h1s:mC Fh n k s0 (gi step s0 l).2:=⟨uh hd l s0,yt hd l s0 h0.ok,iL (by rw [uh hd l s0];exact dS h0.no)⟩;refine SW.seq (SW.g0 [0,1,4,5,6,7,12,19,29] Zm af ?_);refine SW.seq ?_;rcases hi:(gi step s0 l).1 with _ | i
  . have hk:=lp hi
    rw [hi] at hx;have hx:aJ Tryz.prog slices_IndexFunc_Lapi_Op_api_Op.f [.gs n l.length,.fn (.func g) first cap] ((n,.arr 43 29 l.length (jL l))::Fh s0) k (l.length*aP) (.d (.int .i64 (-1))) ((n,.arr 43 29 l.length (jL l))::Fh (gi step s0 l).2):=hx
    (refine SW.dL [0,1,4,5,6,7,12,19,29] Zm ?_;(repeat (first | refine RW.ro hm0 (h:= ?_) | refine RW.skip (h:= ?_) | refine RW.op hm0 (h:= ?_) | refine RW.dQ hm0 (h:= ?_) | refine RW.bF (h:= ?_) | (refine RW.bC (h:= ?_);(first | refine ai.mk (hm0) (hs:=(λ _ _ h=>h)) (hc:=hx) (h:= ?_)))));refine RW.nil ⟨by kernel_rfl,an.mk (h:= ?_)⟩)
    refine SW.seq (SW.seq (SW.g0 [0,1,4,5,6,7,12,19,29] Zm af ?_));refine SW.aj rfl (SW.seq (SW.weak id (st1:=⟨[(0,.gs n l.length)],(n,.arr 43 29 l.length (jL l))::Fh (gi step s0 l).2,k+(l.length*aP+l.length*(aP+1))⟩) (aI.same (by simp) (by simp [aL,List.lookup,SV.aA,SV.ok];omega) ((h1s.mono (by show k<=k+(l.length*aP+l.length*(aP+1));omega)).sQ (by show n<k+(l.length*aP+l.length*(aP+1));omega) _) (aH (h1s.nd hd _))) ?_));refine SW.g0 [0,1,4,5,6,7,12,19,29] Zm af ?_;refine SW.ret ?_;rw [hk];exact End.mk ((n,.arr 43 29 l.length (jL l))::Fh (gi step s0 l).2) (h3:=λ _ _ h=>h) (h4:=⟨rfl,rfl⟩) (h5:=by simp [fc,SV.ok];omega) (h6:=(h1s.mono (by omega)).sQ (by omega) _)
  . obtain ⟨hil,hk⟩:=zC hi
    have hI1:=ES hd l s0 0 hG (by omega) hI i hi;rw [hi] at hx;have hx:aJ Tryz.prog slices_IndexFunc_Lapi_Op_api_Op.f [.gs n l.length,.fn (.func g) first cap] ((n,.arr 43 29 l.length (jL l))::Fh s0) k (l.length*aP) (i64 i) ((n,.arr 43 29 l.length (jL l))::Fh (gi step s0 l).2):=hx;obtain ⟨s1,hs1⟩:∃ s1,(gi step s0 l).2=s1:=⟨_,rfl⟩;rw [hs1] at hx hm0 h1s hk hI1
    (refine SW.dL [0,1,4,5,6,7,12,19,29] Zm ?_;(repeat (first | refine RW.ro hm0 (h:= ?_) | refine RW.skip (h:= ?_) | refine RW.op hm0 (h:= ?_) | refine RW.dQ hm0 (h:= ?_) | refine RW.bF (h:= ?_) | (refine RW.bC (h:= ?_);(first | refine ai.mk (hm0) (hs:=(λ _ _ h=>h)) (hc:=hx) (h:= ?_)))));refine RW.nil ⟨by kernel_rfl,an.mk (h:= ?_)⟩)
    have hne:((i:Int) == -1)=false:=by rw [beq_eq_false_iff_ne];omega
    refine SW.seq (SW.seq (SW.g0 [0,1,4,5,6,7,12,19,29] Zm hne ?_));refine SW.au rfl (SW.skip ?_);refine (?_:Sl.SW _ _ _ _ _ _);have e1:IntKind.i64.wrap ((i:Int)+1)=((i+1:Nat):Int):=wrap_i64 _ (by omega);refine SW.seq (SW.seq (SW.g0 [0,1,4,5,6,7,12,19,29] Zm e1 ?_));refine SW.block ?_
    let K0:=k+l.length*aP
    let Inv:Nat->Nat->List ag->σ->Prop:=λ j w cur s=>(j<=l.length/\w<j/\cur.length=l.length)/\cur.drop j=l.drop j/\I j s/\mC Fh n (K0+j*(aP+1)) s0 s/\bM step s0 l=(cur.take w++(bM step s (l.drop j)).1,(bM step s (l.drop j)).2)
    refine SW.loop (α:={x:Nat×Nat×List ag×σ // Inv x.1 x.2.1 x.2.2.1 x.2.2.2})
      (λ x=>⟨[(6,i64 x.1.1),(5,i64 x.1.2.1),(0,.gs n l.length),(1,.fn (.func g) first cap)],(n,.arr 43 29 l.length (jL x.1.2.2.1))::Fh x.1.2.2.2,K0+x.1.1*(aP+1)⟩) (λ x=>l.length - x.1.1)
      ⟨(i+1,i,l,s1),⟨by show i+1<=l.length;omega,by show i<i+1;omega,rfl⟩,rfl,by rw [Nat.zero_add] at hI1;exact hI1,h1s.mono (by show k<=k+l.length*aP+_;omega),hk⟩ id ?_ ?_
    . refine aI.same (by show k<=k+l.length*aP+_;omega) (by simp [aL,List.lookup,SV.aA,SV.bP,SV.ok];exact ⟨by show n<k+l.length*aP+_;omega,ok1 _ (by show k<=k+l.length*aP+_;omega)⟩) ((h1s.mono (by show k<=k+l.length*aP+_;omega)).sQ (by show n<k+l.length*aP+_;omega) _) (aH (h1s.nd hd _))
    rintro ⟨⟨j,w,cur,s⟩,⟨hj,hwj,hcl2⟩,hdr,hIs,hh,he⟩;dsimp only at hj hwj hcl2 hdr hIs hh he ⊢;have hKk:k<=K0+j*(aP+1):=by show k<=k+l.length*aP+_;omega
    obtain ⟨K,hK⟩:∃ K,K0+j*(aP+1)=K:=⟨_,rfl⟩;have hK1:K0+(j+1)*(aP+1)=K+1+aP:=by rw [<- hK,Nat.succ_mul];omega
    rw [hK] at hh hKk ⊢
    by_cases h:j<l.length
    . have h1 : decide ((j:Int)<l.length)=true:=by simp only [decide_eq_true_eq];omega
      obtain ⟨x,hxl⟩:=aZ h;have hxc:cur[j]? =some x:=zH hdr hxl;have e2:IntKind.i64.wrap ((j:Int)+1)=((j+1:Nat):Int):=wrap_i64 _ (by omega);have e3:IntKind.i64.wrap ((w:Int)+1)=((w+1:Nat):Int):=wrap_i64 _ (by omega);have hGx:=hG x (List.mem_of_getElem? hxl);rw [drop_cons hxl] at he;simp only [bM] at he;have hfr:lk (Fh s) K=none:=Hp.out hh.ok (Nat.le_refl _);have hfr':List.lookup K (Fh s)=none:=hfr;have f1:=b_ (show K≠n by omega);have hh1:=hh.mono (k':=K+1) (by omega);have hc:=hd.call j s x (K+1) hIs hGx (by omega) hh1.ok;have hs:HSub (Fh s) ((K,.box 43 x.cells)::(n,.arr 43 29 l.length (jL cur))::Fh s):=iC hfr (iC hh.no λ _ _ h=>h);have ny:(((K,Ob.box 43 x.cells)::(n,Ob.arr 43 29 l.length (jL cur))::Fh s:Hp).map (·.1)).Nodup:=jM (by rw [aa,if_neg (by omega)];exact hfr) (hh.nd hd _);have hm:cg (cq ((K,Ob.box 43 x.cells)::(n,Ob.arr 43 29 l.length (jL cur))::Fh s) (Fh (step s x).1) (Fh s)) (Fh (step s x).1)=(K,Ob.box 43 x.cells)::(n,.arr 43 29 l.length (jL cur))::Fh (step s x).1:=
        lC (pre:=[(K,.box 43 x.cells),(n,.arr 43 29 l.length (jL cur))]) (hd.nm s x).symm ny
      have hh2:mC Fh n (K0+(j+1)*(aP+1)) s0 (step s x).1:=by rw [hK1];exact (hh.next hd x).mono (by omega)
      have hfr2:List.lookup K (Fh (step s x).1)=none:=iL (by rw [hd.nm s x];exact dS hfr);have hdr2:=xw hdr;refine SW.seq (SW.seq (SW.g0 [0,1,4,5,6,7,12,19,29] Zm h1 ?_));refine SW.aj rfl (SW.skip ?_);refine (?_:Sl.SW _ _ _ _ _ _);refine SW.seq (SW.block (SW.seq (SW.g0 [0,1,4,5,6,7,12,19,29] Zm (Zq (jl hxc) (Zq (dO hxc) (Zq hfr' f1))) ?_)));refine SW.seq ?_;rcases hb:(step s x).2 with _ | _
      . rw [hb] at hc
        refine SW.g1 [0,1,4,5,6,7,12,19,29] Zm hm (Zq hs hc) ?_;refine SW.aj rfl (SW.seq ?_);have hs1:cG (List.map SV.d (cur.flatMap ag.ds)) (w*29) x.cells=List.map SV.d ((cur.set w x).flatMap ag.ds):=KF x (by omega);have hs2:(w*29+29<=(List.map SV.d (cur.flatMap ag.ds)).length)=True:=eq_true (by rw [List.length_map,ja,hcl2];omega);refine SW.g0 [0,1,4,5,6,7,12,19,29] Zm (Zq hs1 (Zq hs2 f1)) ?_;refine SW.g0 [0,1,4,5,6,7,12,19,29] Zm e3 ?_;refine SW.g0 [0,1,4,5,6,7,12,19,29] Zm e2 ?_;rw [if_neg (by rw [hb];simp)] at he;refine ⟨⟨(j+1,w+1,cur.set w x,(step s x).1),⟨by show j+1<=l.length;omega,by show w+1<j+1;omega,by simp [hcl2]⟩,by rw [set_drop (by omega)];exact hdr2,hd.nx j s x hIs hGx (by omega),hh2,?_⟩,id,by simp;omega,?_⟩
        . rw [he,zG (by omega)];simp
        . exact aI.same (by show k<=k+l.length*aP+_;omega) (by simp [aL,List.lookup,SV.aA,SV.bP,SV.ok];exact ⟨by show n<k+l.length*aP+_;omega,ok1 _ (by show k<=k+l.length*aP+_;omega)⟩) (hh2.sQ (by show n<k+l.length*aP+_;omega) _) (λ y hy=>by
            rw [aa,if_neg ?_]
            . exact aH (hh2.nd hd _) y hy
            . intro e
              rcases List.mem_cons.1 hy with rfl | hy
              . dsimp only at e;omega
              . have:=mY (aH (hd.nd _) y hy)
                rw [e] at this;exact dS hfr2 this)
      . rw [hb] at hc
        refine SW.g1 [0,1,4,5,6,7,12,19,29] Zm hm (Zq hs hc) ?_;refine SW.au rfl (SW.skip ?_);refine SW.g0 [0,1,4,5,6,7,12,19,29] Zm e2 ?_;rw [if_pos (by rw [hb])] at he;refine ⟨⟨(j+1,w,cur,(step s x).1),⟨by show j+1<=l.length;omega,by show w<j+1;omega,hcl2⟩,hdr2,hd.nx j s x hIs hGx (by omega),hh2,he⟩,id,by simp;omega,?_⟩;exact aI.same (by show k<=k+l.length*aP+_;omega) (by simp [aL,List.lookup,SV.aA,SV.bP,SV.ok];exact ⟨by show n<k+l.length*aP+_;omega,ok1 _ (by show k<=k+l.length*aP+_;omega)⟩) (hh2.sQ (by show n<k+l.length*aP+_;omega) _) (λ y hy=>by
            rw [aa,if_neg ?_]
            . exact aH (hh2.nd hd _) y hy
            . intro e
              rcases List.mem_cons.1 hy with rfl | hy
              . dsimp only at e;omega
              . have:=mY (aH (hd.nd _) y hy)
                rw [e] at this;exact dS hfr2 this)
    . have h1:decide ((j:Int)<l.length)=false:=by simp only [decide_eq_false_iff_not];omega
      have e:j=l.length:=by omega
      rw [e,List.drop_length] at he;simp only [bM,List.append_nil] at he;have hKe:K=k+(l.length*aP+l.length*(aP+1)):=by rw [<- hK,e];show k+l.length*aP+_=_;omega
      rw [e] at h1;refine SW.seq (SW.seq ?_);rw [e];refine SW.g0 [0,1,4,5,6,7,12,19,29] Zm h1 ?_;refine SW.au rfl (SW.exit ?_);refine (?_:Sl.SW _ _ _ _ _ _);have e4:(w*29+(l.length - w)*29<=(List.map SV.d (cur.flatMap ag.ds)).length)=True:=eq_true (by
        rw [List.length_map,ja,hcl2,<- Nat.add_mul];exact Nat.mul_le_mul_right 29 (by omega))
      refine SW.seq (SW.g0 [0,1,4,5,6,7,12,19,29] Zm e4 ?_);have hz:(ag.zero.cells).length=29:=rfl;have hct:=ET cur w (l.length - w) ag.zero.cells hz (by omega);obtain ⟨Z,hZ⟩:∃ Z,cG (jL cur) (w*29) (List.replicate (l.length - w) ag.zero.cells).flatten=Z:=⟨_,rfl⟩;rw [hZ] at hct;rw [hZ];refine SW.seq (SW.g0 [0,1,4,5,6,7,12,19,29] Zm af ?_);refine SW.trim (n:=n) (e:=43) (sz:=29) (len:=l.length) (cs:=Z) w (by simp [aa]) (by omega) ?_;dsimp only;rw [iS,hct,hKe];rw [hKe] at hh;refine SW.ret ?_;rw [he];have hlw:(cur.take w).length=w:=by rw [List.length_take];omega
      exact End.mk ((n,.arr 43 29 w (jL (cur.take w)))::Fh s) (h3:=λ _ _ h=>h) (h4:=⟨by simp [fc,hlw],by simp [hlw]⟩) (h5:=by simp [fc,SV.ok];omega) (h6:=hh.sQ (by omega) _)
include hd in
theorem u7 (l:List ag)(s0:σ)(hl:l.length<1000000000)(hB:l.length<=B)(hG:∀ x,x∈l->G x)(hI:I 0 s0)(n k:Nat)(hn:n<k)(h0:mC Fh n k s0 s0)(mO:(Fh s0).ok (λ m=>(lk (Fh s0) m).isSome)=true):
  aJ Tryz.prog slices_DeleteFunc_Lapi_Op_api_Op.f [.gs n l.length,.fn (.func g) first cap] ((n,.arr 43 29 l.length (jL l))::Fh s0) k (l.length*aP+l.length*(aP+1)) (.gs n (bM step s0 l).1.length)
   ((n,.arr 43 29 (bM step s0 l).1.length (jL (bM step s0 l).1))::Fh (bM step s0 l).2):=by
 unfold aJ;have hq:=yu (n:=n) (o:= .arr 43 29 l.length (jL l)) (λ q=>SV.bg _) mO h0.no;have hq0:(Fh s0).ok (λ m=>(lk ((n,Ob.arr 43 29 l.length (jL l))::Fh s0) m).isSome)=true:=by
  simp only [Hp.ok,List.all_cons,Bool.and_eq_true] at hq ⊢;exact hq.2
 obtain ⟨o1,o2⟩:=hd.a1 s0 _ hq0;refine (AT hd l s0 hl hB hG hI n k hn h0 mO).here (λ m=>(lk ((n,Ob.arr 43 29 l.length (jL l))::Fh s0) m).isSome) (λ m h e=>by rw [e] at h;cases h) (by simp only [SV.ay,SV.ok,o1,o2,Bool.and_true];simp [aa]) hq ?_;rintro x F ⟨rfl,rfl⟩ _ _;refine ⟨by simp [SV.ok,aa],?_⟩;have:=zF hd l s0 hq0;exact ak (by simp [aa]) (SV.bg _) (Hp.dH (λ m hm=>by rw [hm];rfl) this)
end
end
section
structure Tr where
 bx:Nat
 ma:Nat
 mm:Nat
 at_:MM Dt Cr
 ca:Nat
 made:MM Dt ag
 cm:Nat
abbrev Tr.oa (T:Tr):Ob:= .map (ah Dt.cells cv T.at_) T.ca
abbrev Tr.om (T:Tr):Ob:= .map (ah Dt.cells ov T.made) T.cm
def Tr.hp (T:Tr):Hp:=[(T.bx,.box 166 [.mp T.ma,.mp T.mm]),(T.ma,.map (ah Dt.cells cv T.at_) T.ca),(T.mm,.map (ah Dt.cells ov T.made) T.cm)]
structure Tr.sep (T:Tr):Prop where
 ab:T.ma≠T.bx
 mb:T.mm≠T.bx
 am:T.ma≠T.mm
structure Tr.lt (T:Tr)(k:Nat):Prop where
 b:T.bx<k
 a:T.ma<k
 m:T.mm<k
theorem Tr.NR {T:Tr}{q:Nat->Bool}(h1:q T.bx=true)(h2:q T.ma=true)(h3:q T.mm=true):T.hp.ok q=true:=by
 simp only [Tr.hp,Hp.ok,List.all_cons,List.all_nil,Ob.ok,SV.ay,SV.ok,h1,h2,h3,Bool.and_true,Bool.true_and];have a:=iG q T.at_;have b:=a_ q T.made;simp only [a,b,Bool.and_true]
theorem Tr.tB {T:Tr}{k:Nat}(h:T.lt k):T.hp.ok (λ n=>decide (n<k))=true:=Tr.NR (by simpa using h.b) (by simpa using h.a) (by simpa using h.m)
theorem Tr.names (T:Tr):T.hp.map (·.1)=[T.bx,T.ma,T.mm]:=rfl
theorem Tr.nd {T:Tr}(h:T.sep):(T.hp.map (·.1)).Nodup:=by
 have:=h.ab;have:=h.mb;have:=h.am;simp [Tr.names];omega
theorem Tr.JP (T:Tr):lk T.hp T.bx=some (.box 166 [.mp T.ma,.mp T.mm]):=by simp [Tr.hp,aa]
theorem Tr.L8 {T:Tr}(h:T.sep):lk T.hp T.ma=some T.oa:=by
 rw [Tr.hp,aa,if_neg h.ab,aa,if_pos rfl]
theorem Tr.N_ {T:Tr}(h:T.sep):lk T.hp T.mm=some T.om:=by
 rw [Tr.hp,aa,if_neg h.mb,aa,if_neg (Ne.symm h.am),aa,if_pos rfl]
theorem Tr.cl {T:Tr}(h:T.sep):T.hp.ok (λ m=>(lk T.hp m).isSome)=true:=Tr.NR (by rw [T.JP];rfl) (by rw [Tr.L8 h];rfl) (by rw [Tr.N_ h];rfl)
theorem Tr.out {T:Tr}{m:Nat}(h1:m≠T.bx)(h2:m≠T.ma)(h3:m≠T.mm):lk T.hp m=none:=by
 rw [Tr.hp,aa,if_neg h1,aa,if_neg h2,aa,if_neg h3];rfl
theorem Tr.Pt {T:Tr}{k m:Nat}(h:T.lt k)(hm:k<=m):lk T.hp m=none:=by
 obtain ⟨h1,h2,h3⟩:=h;exact Tr.out (by omega) (by omega) (by omega)
section
attribute [local irreducible] SW RW aJ SC ai an Tr.hp
variable {T:Tr} (hs:T.sep)
include hs in
theorem Ik {k:Nat}(hlt:T.lt k):aJ Tryz.prog tree_Tree_none.f [.ptr T.bx 0] T.hp k 0 (bl false) T.hp:=by
 refine SB.same ?_ (Tr.cl hs) (by simp [SV.ay,SV.ok,Tr.hp,aa]) (λ _=>rfl);refine tree_Tree_none.enter (by simp [SV.ay,SV.ok];exact hlt.b) (Tr.tB hlt) (by simp) ?_;dsimp only [tree_Tree_none.s,Co.M,Co.G,Co.J,Co.H,Co.F,Co.B,Co.S];have f1:=b_ hs.ab;have u1:List.lookup T.bx T.hp=some (.box 166 [.mp T.ma,.mp T.mm]):=T.JP;have u2:List.lookup T.ma T.hp=some T.oa:=Tr.L8 hs;(repeat (first | refine SW.seq ?_ | refine SW.block ?_ | refine SW.g0 [0,2] Zm (Zq f1 (Zq u1 u2)) ?_ | refine SW.skip ?_ | refine SW.exit ?_ | refine SW.ret ?_ | refine SW.aj rfl ?_ | refine SW.au rfl ?_));exact End.mk T.hp (h3:=λ _ _ h=>h) (h4:=⟨rfl,rfl⟩) (h6:=Tr.tB hlt)
theorem BY (o:ag){b k:Nat}(hb:b<k):aJ Tryz.prog tree_Tree_Why_1.f [.ptr b 0] [(b,.box 43 o.cells)] k 0 (bl (decide (o.kind≠1))) [(b,.box 43 o.cells)]:=by
 refine SB.same ?_ (by simp [Hp.ok,Ob.ok,aa]) (by simp [SV.ay,SV.ok,aa]) (λ _=>rfl);refine tree_Tree_Why_1.enter (by simp [SV.ay,SV.ok];exact hb) (by simp [Hp.ok,Ob.ok];exact hb) (by simp) ?_;dsimp only [tree_Tree_Why_1.s,Co.M,Co.J,Co.F,Co.B,Co.b8,Co.T,Co.D,Co.S];have e1:(((o.kind:Nat):Int) != 1)=decide (o.kind≠1):=by
  rw [Bool.eq_iff_iff];simp only [bne_iff_ne,decide_eq_true_eq];omega
 (repeat (first | refine SW.seq ?_ | refine SW.block ?_ | refine SW.g0 [0,1] Zm e1 ?_ | refine SW.skip ?_ | refine SW.exit ?_ | refine SW.ret ?_ | refine SW.aj rfl ?_ | refine SW.au rfl ?_));exact End.mk [(b,.box 43 o.cells)] (h3:=λ _ _ h=>h) (h4:=⟨rfl,rfl⟩) (h6:=by simp [Hp.ok,Ob.ok];exact hb)
theorem BZ (c:Cr)(o:ag){b b2 k:Nat}(hb:b<k)(Hy:b2<k)(hne:b≠b2):aJ Tryz.prog tree_Tree_Why_3.f [.ptr b 0,.ptr b2 0] [(b2,.box 43 o.cells),(b,.box 158 c.cells)] k 0 (bl (decide (c.hold≠o.who))) [(b2,.box 43 o.cells),(b,.box 158 c.cells)]:=by
 refine SB.same ?_ (by simp [Hp.ok,Ob.ok,aa,hne]) (by simp [SV.ay,SV.ok,aa,hne]) (λ _=>rfl);refine tree_Tree_Why_3.enter (by simp [SV.ay,SV.ok];omega) (by simp [Hp.ok,Ob.ok];omega) (by simp) ?_;dsimp only [tree_Tree_Why_3.s,Co.M,Co.J,Co.F,Co.B,Co.T,Co.V,Co.D,Co.S];have f1:=b_ hne;have e1:(((c.hold:Nat):Int) != ((o.who:Nat):Int))=decide (c.hold≠o.who):=by
  rw [Bool.eq_iff_iff];simp only [bne_iff_ne,decide_eq_true_eq];omega
 (repeat (first | refine SW.seq ?_ | refine SW.block ?_ | refine SW.g0 [0,1,2] Zm (Zq e1 f1) ?_ | refine SW.skip ?_ | refine SW.exit ?_ | refine SW.ret ?_ | refine SW.aj rfl ?_ | refine SW.au rfl ?_));exact End.mk [(b2,.box 43 o.cells),(b,.box 158 c.cells)] (h3:=λ _ _ h=>h) (h4:=⟨rfl,rfl⟩) (h6:=by simp [Hp.ok,Ob.ok];omega)
theorem B0 (c:Cr){b k:Nat}(hb:b<k):aJ Tryz.prog tree_Tree_Why_4.f [.ptr b 0] [(b,.box 158 c.cells)] k 0 (bl (bits .and .u8 (c.bp:Int) 1 == 0)) [(b,.box 158 c.cells)]:=by
 refine SB.same ?_ (by simp [Hp.ok,Ob.ok,aa]) (by simp [SV.ay,SV.ok,aa]) (λ _=>rfl);refine tree_Tree_Why_4.enter (by simp [SV.ay,SV.ok];exact hb) (by simp [Hp.ok,Ob.ok];exact hb) (by simp) ?_;dsimp only [tree_Tree_Why_4.s,Co.M,Co.J,Co.F,Co.B,Co.b8,Co.T,Co.D,Co.S];(repeat (first | refine SW.seq ?_ | refine SW.block ?_ | refine SW.g0 [0,1] Zm af ?_ | refine SW.skip ?_ | refine SW.exit ?_ | refine SW.ret ?_ | refine SW.aj rfl ?_ | refine SW.au rfl ?_));exact End.mk [(b,.box 158 c.cells)] (h3:=λ _ _ h=>h) (h4:=⟨rfl,rfl⟩) (h6:=by simp [Hp.ok,Ob.ok];exact hb)
def ic (o:ag)(c:Cr):Bool:=(((o.bp:Int) == 0) || (bits .andNot .u8 (o.bp:Int) (c.bp:Int) != 0)) || ((o.to:Int) == 0) || decide ((o.depth:Int)>=c.depth) || decide ((o.cap:Int)>c.cap)
theorem B1 (c:Cr)(o:ag){b b2 k:Nat}(hb:b<k)(Hy:b2<k)(hne:b≠b2):aJ Tryz.prog tree_Tree_Why_5.f [.ptr b2 0,.ptr b 0] [(b2,.box 43 o.cells),(b,.box 158 c.cells)] k 0 (bl (ic o c)) [(b2,.box 43 o.cells),(b,.box 158 c.cells)]:=by
 refine SB.same ?_ (by simp [Hp.ok,Ob.ok,aa,hne]) (by simp [SV.ay,SV.ok,aa,hne]) (λ _=>rfl);refine tree_Tree_Why_5.enter (by simp [SV.ay,SV.ok];omega) (by simp [Hp.ok,Ob.ok];omega) (by simp) ?_;dsimp only [tree_Tree_Why_5.s,Co.M,Co.J,Co.H,Co.F,Co.B,Co.b8,Co.aB,Co.T,Co.D,Co.S];have f1:=b_ hne;rcases h1:((o.bp:Int) == 0) with _ | _
 .skip
  rcases h2:(bits .andNot .u8 (o.bp:Int) (c.bp:Int) != 0) with _ | _
  .skip
   rcases h3:((o.to:Int) == 0) with _ | _
   .skip
    rcases h4:decide ((o.depth:Int)>=c.depth) with _ | _
    .skip
     (repeat (first | refine SW.seq ?_ | refine SW.block ?_ | refine SW.g0 [0,1,2] Zm (Zq h1 (Zq h2 (Zq h3 (Zq h4 f1)))) ?_ | refine SW.skip ?_ | refine SW.exit ?_ | refine SW.ret ?_ | refine SW.aj rfl ?_ | refine SW.au rfl ?_));exact End.mk [(b2,.box 43 o.cells),(b,.box 158 c.cells)] (h3:=λ _ _ h=>h) (h4:=⟨by simp only [ic,h1,h2,h3,h4,Bool.false_or,Bool.or_false,Bool.true_or];rfl,rfl⟩) (h6:=by simp [Hp.ok,Ob.ok];omega)
    ·(repeat (first | refine SW.seq ?_ | refine SW.block ?_ | refine SW.g0 [0,1,2] Zm (Zq h1 (Zq h2 (Zq h3 (Zq h4 f1)))) ?_ | refine SW.skip ?_ | refine SW.exit ?_ | refine SW.ret ?_ | refine SW.aj rfl ?_ | refine SW.au rfl ?_))
     exact End.mk [(b2,.box 43 o.cells),(b,.box 158 c.cells)] (h3:=λ _ _ h=>h) (h4:=⟨by simp only [ic,h1,h2,h3,h4,Bool.false_or,Bool.or_false,Bool.true_or];rfl,rfl⟩) (h6:=by simp [Hp.ok,Ob.ok];omega)
   ·(repeat (first | refine SW.seq ?_ | refine SW.block ?_ | refine SW.g0 [0,1,2] Zm (Zq h1 (Zq h2 (Zq h3 f1))) ?_ | refine SW.skip ?_ | refine SW.exit ?_ | refine SW.ret ?_ | refine SW.aj rfl ?_ | refine SW.au rfl ?_))
    exact End.mk [(b2,.box 43 o.cells),(b,.box 158 c.cells)] (h3:=λ _ _ h=>h) (h4:=⟨by simp only [ic,h1,h2,h3,Bool.false_or,Bool.or_false,Bool.true_or];rfl,rfl⟩) (h6:=by simp [Hp.ok,Ob.ok];omega)
  ·(repeat (first | refine SW.seq ?_ | refine SW.block ?_ | refine SW.g0 [0,1,2] Zm (Zq h1 (Zq h2 f1)) ?_ | refine SW.skip ?_ | refine SW.exit ?_ | refine SW.ret ?_ | refine SW.aj rfl ?_ | refine SW.au rfl ?_))
   exact End.mk [(b2,.box 43 o.cells),(b,.box 158 c.cells)] (h3:=λ _ _ h=>h) (h4:=⟨by simp only [ic,h1,h2,Bool.false_or,Bool.or_false,Bool.true_or];rfl,rfl⟩) (h6:=by simp [Hp.ok,Ob.ok];omega)
 ·(repeat (first | refine SW.seq ?_ | refine SW.block ?_ | refine SW.g0 [0,1,2] Zm (Zq h1 f1) ?_ | refine SW.skip ?_ | refine SW.exit ?_ | refine SW.ret ?_ | refine SW.aj rfl ?_ | refine SW.au rfl ?_))
  exact End.mk [(b2,.box 43 o.cells),(b,.box 158 c.cells)] (h3:=λ _ _ h=>h) (h4:=⟨by simp only [ic,h1,Bool.false_or,Bool.or_false,Bool.true_or];rfl,rfl⟩) (h6:=by simp [Hp.ok,Ob.ok];omega)
end
end
end Go.Proofs.YtaelhkkjgfobhaaGreat
namespace Go.Proofs.YtaelhkkjgfobhaaGreat
open Go.Sl Go.Proofs
section
def Tr.wh (T:Tr)(there:Bool)(c:Cr)(o:ag)(b6 b5 b3 b2:Nat):Hp:=(b6,.box 4 [bl there])::(b5,.box 158 c.cells)::(b3,.box 43 o.cells)::(b2,.box 105 [.ptr T.bx 0])::T.hp
def Tr.by (T:Tr)(o:ag):Cr:=(MM.get T.at_ o.aM).getD Cr.zero
def Tr.is (T:Tr)(o:ag):Bool:=MM.has T.at_ o.aM
def Tr.u9 (T:Tr)(o:ag):ag:=(MM.get T.made o.aM).getD ag.zero
def Tr.gQ (T:Tr)(o:ag):Bool:=(!T.is o || !decide ((T.by o).aK=o.aK)) || !(T.u9 o).before o
def Tr.why (T:Tr)(o:ag):Nat:=
 if o.kind≠1 then 2 else if T.gQ o then 272 else if (T.by o).hold≠o.who then 273 else if bits .and .u8 ((T.by o).bp:Int) 1 == 0 then 274 else if ic o (T.by o) then 275 else 0
section
attribute [local irreducible] SW RW aJ SC ai an Tr.hp
variable {T:Tr} (hs:T.sep)
include hs in
theorem Il (o:ag){k n:Nat}(hlt:T.lt k)(hn:k+4<=n):aJ Tryz.prog tree_Tree_Why_2.f [.ptr (k+3) 0,.ptr (k+2) 0,.ptr (k+1) 0,.ptr k 0] (T.wh (T.is o) (T.by o) o (k+3) (k+2) (k+1) k) n 0 (bl (T.gQ o)) (T.wh (T.is o) (T.by o) o (k+3) (k+2) (k+1) k):=by
 have hb:=hlt.b;have ha:=hlt.a;have hmm:=hlt.m;have hok:∀ q:Nat->Bool,q (k+3)=true->q (k+2)=true->q (k+1)=true->q k=true->q T.bx=true->q T.ma=true->q T.mm=true->Hp.ok q (T.wh (T.is o) (T.by o) o (k+3) (k+2) (k+1) k)=true:=λ q h1 h2 h3 h4 h5 h6 h7=>
  ak h1 rfl (ak h2 (by simp [Ob.ok]) (ak h3 (by simp [Ob.ok]) (ak h4 (by simp [Ob.ok,SV.ay,SV.ok,h5]) (Tr.NR h5 h6 h7))))
 have hl:∀ m,m=k+3\/m=k+2\/m=k+1\/m=k\/m=T.bx\/m=T.ma\/m=T.mm->(lk (T.wh (T.is o) (T.by o) o (k+3) (k+2) (k+1) k) m).isSome=true:=λ m hm=>by
  unfold Tr.wh
  repeat (rw [aa];split;· rfl)
  rcases hm with h | h | h | h | h | h | h
  .omega
  .omega
  .omega
  .omega
  .rw [h,T.JP];rfl
  .rw [h,Tr.L8 hs];rfl
  .rw [h,Tr.N_ hs];rfl
 refine SB.same ?_ (hok _ (hl _ (by simp)) (hl _ (by simp)) (hl _ (by simp)) (hl _ (by simp)) (hl _ (by simp)) (hl _ (by simp)) (hl _ (by simp))) (by simp only [SV.ay,SV.ok,hl _ (.inl rfl),hl _ (.inr (.inl rfl)),hl _ (.inr (.inr (.inl rfl))),hl _ (.inr (.inr (.inr (.inl rfl))))];rfl) (λ _=>rfl);have hokk:Hp.ok (λ m=>decide (m<n)) (T.wh (T.is o) (T.by o) o (k+3) (k+2) (k+1) k)=true:=hok _ (by simp;omega) (by simp;omega) (by simp;omega) (by simp;omega) (by simp;omega) (by simp;omega) (by simp;omega);refine tree_Tree_Why_2.enter (by simp [SV.ay,SV.ok];omega) hokk (by simp) ?_;dsimp only [tree_Tree_Why_2.s,Co.M,Co.J,Co.H,Co.F,Co.C,Co.B,Co.bW,Co.T,Co.O,Co.S];have u1:List.lookup T.bx T.hp=some (.box 166 [.mp T.ma,.mp T.mm]):=T.JP;have u3:List.lookup T.mm T.hp=some T.om:=Tr.N_ hs;have n1:=b_ (show T.bx≠k+3 by omega);have n2:=b_ (show T.bx≠k+2 by omega);have n3:=b_ (show T.bx≠k+1 by omega);have n4:=b_ (show T.bx≠k by omega);have m1:=b_ (show T.mm≠k+3 by omega);have m2:=b_ (show T.mm≠k+2 by omega);have m3:=b_ (show T.mm≠k+1 by omega);have m4:=b_ (show T.mm≠k by omega);have p1:=b_ (show k+3≠k+2 by omega);have p2:=b_ (show k+3≠k+1 by omega);have p3:=b_ (show k+3≠k by omega);have p4:=b_ (show k+2≠k+1 by omega);have p5:=b_ (show k+2≠k by omega);have p6:=b_ (show k+1≠k by omega);unfold Tr.wh at hokk ⊢;rcases h1:T.is o with _ | _
 .rw [h1] at hokk
  (repeat (first | refine SW.seq ?_ | refine SW.block ?_ | (have fx:=(Zq n1 (Zq n2 (Zq n3 (Zq n4 (Zq p1 (Zq p2 (Zq p3 (Zq p4 (Zq p5 p6)))))))));refine SW.dL [0,1,2,3,4] Zm ?_;(repeat (first | refine RW.ro fx (h:= ?_) | refine RW.skip (h:= ?_) | refine RW.op fx (h:= ?_) | refine RW.dQ fx (h:= ?_) | refine RW.bF (h:= ?_) | (refine RW.bC (h:= ?_);(first | refine ai.mk fx (hc:=kP _ _ _) (h:= ?_)))));refine RW.nil ⟨by kernel_rfl,an.mk (h:= ?_)⟩) | refine SW.skip ?_ | refine SW.exit ?_ | refine SW.ret ?_ | refine SW.aj rfl ?_ | refine SW.au rfl ?_));exact End.mk _ (h3:=λ _ _ h=>h) (h4:=⟨by simp only [Tr.gQ,h1];rfl,rfl⟩) (h6:=hokk)
 .rw [h1] at hokk
  rcases h2:decide ((T.by o).aK=o.aK) with _ | _
  ·(repeat (first | refine SW.seq ?_ | refine SW.block ?_ | (have fx:=(Zq n1 (Zq n2 (Zq n3 (Zq n4 (Zq p1 (Zq p2 (Zq p3 (Zq p4 (Zq p5 (Zq p6 h2))))))))));refine SW.dL [0,1,2,3,4] Zm ?_;(repeat (first | refine RW.ro fx (h:= ?_) | refine RW.skip (h:= ?_) | refine RW.op fx (h:= ?_) | refine RW.dQ fx (h:= ?_) | refine RW.bF (h:= ?_) | (refine RW.bC (h:= ?_);(first | refine ai.mk fx (hc:=kP _ _ _) (h:= ?_)))));refine RW.nil ⟨by kernel_rfl,an.mk (h:= ?_)⟩) | refine SW.skip ?_ | refine SW.exit ?_ | refine SW.ret ?_ | refine SW.aj rfl ?_ | refine SW.au rfl ?_))
   exact End.mk _ (h3:=λ _ _ h=>h) (h4:=⟨by simp only [Tr.gQ,h1,h2];rfl,rfl⟩) (h6:=hokk)
  .have e1:(MM.get T.made o.aM).getD ag.zero=T.u9 o:=rfl
   have e2:((MM.get T.made o.aM).getD ag.zero).cells=(T.u9 o).cells:=rfl;(repeat (first | refine SW.seq ?_ | refine SW.block ?_ | (have fx:=(Zq u1 (Zq u3 (Zq n1 (Zq n2 (Zq n3 (Zq n4 (Zq m1 (Zq m2 (Zq m3 (Zq m4 (Zq p1 (Zq p2 (Zq p3 (Zq p4 (Zq p5 (Zq p6 (Zq h2 e2)))))))))))))))));refine SW.dL [0,1,2,3,4] Zm ?_;(repeat (first | refine RW.ro fx (h:= ?_) | refine RW.skip (h:= ?_) | refine RW.op fx (h:= ?_) | refine RW.dQ fx (h:= ?_) | refine RW.bF (h:= ?_) | (refine RW.bC (h:= ?_);(first | refine ai.mk fx (hc:=kP _ _ _) (h:= ?_)))));refine RW.nil ⟨by kernel_rfl,an.mk (h:= ?_)⟩) | refine SW.skip ?_ | refine SW.exit ?_ | refine SW.ret ?_ | refine SW.aj rfl ?_ | refine SW.au rfl ?_));exact End.mk _ (h3:=λ _ _ h=>h) (h4:=⟨by simp only [Tr.gQ,h1,h2];rfl,rfl⟩) (h6:=hokk)
end
abbrev jm (a:MM Dt Cr)(ca:Nat)(m:MM Dt ag)(cm:Nat):Tr:=⟨0,1,2,a,ca,m,cm⟩
abbrev gx (a:MM Dt Cr)(ca:Nat)(m:MM Dt ag)(cm:Nat):Hp:=[(0,.box 166 [.mp 1,.mp 2]),(1,.map (ah Dt.cells cv a) ca),(2,.map (ah Dt.cells ov m) cm)]
theorem pU (a:MM Dt Cr)(ca:Nat)(m:MM Dt ag)(cm:Nat):(jm a ca m cm).sep:=⟨by show (1:Nat)≠0;decide,by show (2:Nat)≠0;decide,by show (1:Nat)≠2;decide⟩
theorem qF (a:MM Dt Cr)(ca:Nat)(m:MM Dt ag)(cm:Nat){k:Nat}(h:3<=k):(jm a ca m cm).lt k:=⟨by show 0<k;omega,by show 1<k;omega,by show 2<k;omega⟩
theorem dD (a:MM Dt Cr)(ca:Nat)(m:MM Dt ag)(cm:Nat){k:Nat}(h:3<=k):(gx a ca m cm).ok (λ n=>decide (n<k))=true:=Tr.tB (qF a ca m cm h)
theorem lF (a:MM Dt Cr)(ca:Nat)(m:MM Dt ag)(cm:Nat){k:Nat}(h:3<=k):aJ Tryz.prog tree_Tree_none.f [.ptr 0 0] (gx a ca m cm) k 0 (.d (.bool false)) (gx a ca m cm):=Ik (pU a ca m cm) (qF a ca m cm h)
theorem EU (a:MM Dt Cr)(ca:Nat)(m:MM Dt ag)(cm:Nat)(o:ag){n:Nat}(h:7<=n):
  aJ Tryz.prog tree_Tree_Why_2.f [.ptr 6 0,.ptr 5 0,.ptr 4 0,.ptr 3 0] ((6,.box 4 [bl (MM.has a o.aM)])::(5,.box 158 ((MM.get a o.aM).getD Cr.zero).cells)::(4,.box 43 o.cells)::(3,.box 105 [.ptr 0 0])::gx a ca m cm) n 0 (bl ((jm a ca m cm).gQ o))
   ((6,.box 4 [bl (MM.has a o.aM)])::(5,.box 158 ((MM.get a o.aM).getD Cr.zero).cells)::(4,.box 43 o.cells)::(3,.box 105 [.ptr 0 0])::gx a ca m cm):=Il (T:=jm a ca m cm) (pU a ca m cm) o (k:=3) (qF a ca m cm (Nat.le_refl 3)) (by omega)
section
attribute [local irreducible] SW RW aJ SC ai an Tr.gQ ic
def yw:List SV:=[.d (.int .i64 2),.fn (.func 166) [] [.ptr 4 0],.d (.int .i64 272),.fn (.func 167) [] [.ptr 6 0,.ptr 5 0,.ptr 4 0,.ptr 3 0],.d (.int .i64 273),.fn (.func 168) [] [.ptr 5 0,.ptr 4 0],.d (.int .i64 274),.fn (.func 169) [] [.ptr 5 0],.d (.int .i64 275),.fn (.func 170) [] [.ptr 4 0,.ptr 5 0]]
theorem EV:List.take 2 yw=[.d (.int .i64 2),.fn (.func 166) [] [.ptr 4 0]]:=rfl
theorem EW:List.take 2 (List.drop 2 yw)=[.d (.int .i64 272),.fn (.func 167) [] [.ptr 6 0,.ptr 5 0,.ptr 4 0,.ptr 3 0]]:=rfl
theorem EX:List.take 2 (List.drop 4 yw)=[.d (.int .i64 273),.fn (.func 168) [] [.ptr 5 0,.ptr 4 0]]:=rfl
theorem EY:List.take 2 (List.drop 6 yw)=[.d (.int .i64 274),.fn (.func 169) [] [.ptr 5 0]]:=rfl
theorem EZ:List.take 2 (List.drop 8 yw)=[.d (.int .i64 275),.fn (.func 170) [] [.ptr 4 0,.ptr 5 0]]:=rfl
theorem gA:∀ (x y a b:SV),cG [x,y] 0 [a,b]=[a,b]:=λ _ _ _ _=>rfl
@[simp] theorem ML:yw.length=10:=rfl
theorem MN:∀ (x0 x1 x2 x3 x4 x5 x6 x7 x8 x9 a0 b0 a1 b1 a2 b2 a3 b3 a4 b4:SV),cG (cG (cG (cG (cG ([x0,x1,x2,x3,x4,x5,x6,x7,x8,x9]) 0 [a0,b0]) 2 [a1,b1]) 4 [a2,b2]) 6 [a3,b3]) 8 [a4,b4]=[a0,b0,a1,b1,a2,b2,a3,b3,a4,b4]:=λ _ _ _ _ _ _ _ _ _ _ _ _ _ _ _ _ _ _ _ _=>rfl
set_option maxHeartbeats 4000000 in
theorem KJ (a:MM Dt Cr)(ca:Nat)(m:MM Dt ag)(cm:Nat)(o:ag):SB Tryz.prog tree_Tree_Why.f [.ptr 0 0,.agg o.cells] (gx a ca m cm) 3 4 (λ r F'=>r=i64 ((jm a ca m cm).why o)/\F'=gx a ca m cm):=by
 refine tree_Tree_Why.enter (by simp [SV.ay,SV.ok]) (dD a ca m cm (Nat.le_refl 3)) (by simp) ?_;dsimp only [tree_Tree_Why.s,Co.M,Co.J,Co.F,Co.Z,Co.b8,Co.aB,Co.bN,Co.i6,Co.T,Co.K,Co.E,Co.P,Co.x,Co.W,Co.Y,Co.D,Co.A,Co.S];have hend:∀ n,7<=n->Hp.ok (λ m=>decide (m<3+4)) (gx a ca m cm)=true:=λ n _=>dD a ca m cm (by omega)
 refine SW.seq ?_
 (refine SW.dL [0,1,2,3,4,5,6,8,10,31,32,33,37] Zm ?_;(repeat (first | refine RW.ro af (h:= ?_) | refine RW.skip (h:= ?_) | refine RW.op af (h:= ?_) | refine RW.dQ af (h:= ?_) | refine RW.bF (h:= ?_) | (refine RW.bC (h:= ?_);(first | refine ai.mk af (hc:=lF a ca m cm (by omega)) (h:= ?_)))));refine RW.nil ⟨by kernel_rfl,an.mk (h:= ?_)⟩)
 refine SW.seq (SW.seq ?_)
 (refine SW.dL [0,1,2,3,4,5,6,8,10,31,32,33,37] Zm ?_;(repeat (first | refine RW.ro af (h:= ?_) | refine RW.skip (h:= ?_) | refine RW.op af (h:= ?_) | refine RW.dQ af (h:= ?_) | refine RW.bF (h:= ?_) | (refine RW.bC (h:= ?_);(first | refine ai.mk af (hc:=lF a ca m cm (by omega)) (h:= ?_)))));refine RW.nil ⟨by kernel_rfl,an.mk (h:= ?_)⟩)
 refine SW.au rfl (SW.skip ?_);refine (?_:Sl.SW _ _ _ _ _ _);obtain ⟨c,hc⟩:∃ c,(MM.get a o.aM).getD Cr.zero=c:=⟨_,rfl⟩;have q2:=EU a ca m cm o (n:=8) (by omega);rw [hc] at q2;refine SW.seq (SW.g0 [0,1,2,3,4,5,6,8,10,31,32,33,37] Zm hc ?_);refine SW.seq (SW.seq ?_);have eR:[.d (.int .i64 2),.fn (.func 166) [] [.ptr 4 0],.d (.int .i64 272),.fn (.func 167) [] [.ptr 6 0,.ptr 5 0,.ptr 4 0,.ptr 3 0],.d (.int .i64 273),.fn (.func 168) [] [.ptr 5 0,.ptr 4 0],.d (.int .i64 274),.fn (.func 169) [] [.ptr 5 0],.d (.int .i64 275),.fn (.func 170) [] [.ptr 4 0,.ptr 5 0]]=yw:=rfl;refine SW.g0 [0,1,2,3,4,5,6,8,10,31,32,33,37] Zm (Zq zB (Zq MN eR)) ?_;refine SW.block ?_
 let H7:Hp:=(6,.box 4 [bl (MM.has a o.aM)])::(5,.box 158 c.cells)::(4,.box 43 o.cells)::(3,.box 105 [.ptr 0 0])::gx a ca m cm
 have hH:∀ n,7<=n->Hp.ok (λ m=>decide (m<n)) H7=true:=λ n hn=>ak (by simp;omega) rfl (ak (by simp;omega) (by simp [Ob.ok]) (ak (by simp;omega) (by simp [Ob.ok]) (ak (by simp;omega) (by simp [Ob.ok,SV.ay,SV.ok];omega) (dD a ca m cm (by omega)))))
 have hR:SV.ay (λ n=>decide (n<7)) yw=true:=rfl
 let W:Bool->Bool->Bool->Bool->Bool->Nat->Prop:=λ r1 r2 r3 r4 r5 i=>(1<=i->r1=false)/\(2<=i->r2=false)/\(3<=i->r3=false)/\(4<=i->r4=false)/\(5<=i->r5=false)
 have hw:(jm a ca m cm).why o=if o.kind≠1 then 2 else if (jm a ca m cm).gQ o then 272 else if c.hold≠o.who then 273 else if bits .and .u8 (c.bp:Int) 1 == 0 then 274 else if ic o c then 275 else 0:=by
  unfold Tr.why Tr.by
  rw [show (jm a ca m cm).at_=a from rfl,hc]
 refine SW.loop (α:={i:Nat // i<=5/\W (decide (o.kind≠1)) ((jm a ca m cm).gQ o) (decide (c.hold≠o.who)) (bits .and .u8 (c.bp:Int) 1 == 0) (ic o c) i}) (λ i=>⟨[(32,i64 i.1),(31,.agg yw)],(6,.box 4 [bl (MM.has a o.aM)])::(5,.box 158 c.cells)::(4,.box 43 o.cells)::(3,.box 105 [.ptr 0 0])::[(0,.box 166 [.mp 1,.mp 2]),(1,.map (ah Dt.cells cv a) ca),(2,.map (ah Dt.cells ov m) cm)],7⟩) (λ i=>5 - i.1) ⟨0,by omega,by simp [W]⟩ id ?_ ?_
 .exact aI.same (by simp) (by simp [aL,List.lookup,SV.aA,SV.bP,SV.ok,hR]) (hH 7 (by omega)) (aH (by simp [H7]))
 rintro ⟨i,hi,w1,w2,w3,w4,w5⟩;have hdrop:∀ (x:Nat×Ob) (o2:Ob),x∈H7->lk ((7,o2)::H7) x.1=some x.2:=λ x o2 hx=>by
  have hl:=aH (h:=H7) (by simp [H7]) x hx;rw [aa,if_neg ?_]
  .exact hl
  .intro e
   have:=(Hp.eF (hH 7 (by omega)) hl).1;simp at this;omega
 have hsub:∀ o2:Ob,HSub (gx a ca m cm) ((7,o2)::H7):=λ o2 n ob hn=>by
  have h3:n<3:=by
   have:=(Hp.eF (dD a ca m cm (Nat.le_refl 3)) hn).1
   simpa using this
  show lk ((7,o2)::(6,_)::(5,_)::(4,_)::(3,_)::gx a ca m cm) n=some ob;rw [aa,if_neg (by omega),aa,if_neg (by omega),aa,if_neg (by omega),aa,if_neg (by omega),aa,if_neg (by omega)];exact hn
 have hsub7:HSub (gx a ca m cm) H7:=λ n ob hn=>by
  have h3:n<3:=by
   have:=(Hp.eF (dD a ca m cm (Nat.le_refl 3)) hn).1
   simpa using this
  show lk ((6,_)::(5,_)::(4,_)::(3,_)::gx a ca m cm) n=some ob;rw [aa,if_neg (by omega),aa,if_neg (by omega),aa,if_neg (by omega),aa,if_neg (by omega)];exact hn
 match i,hi,w1,w2,w3,w4,w5 with
 | 0,_,_,_,_,_,_=>
  rcases (Bool.eq_false_or_eq_true (decide (o.kind≠1))).symm with h0 | h0
  .have con:=BY o (b:=4) (k:=8) (by omega)
   rw [h0] at con;(repeat (first | refine SW.seq ?_ | refine SW.block ?_ | refine SW.g1 [0,1,2,3,4,5,6,8,10,31,32,33,37] Zm (Zq EV gA) con ?_ | refine SW.skip ?_ | refine SW.exit ?_ | refine SW.ret ?_ | refine SW.aj rfl ?_ | refine SW.au rfl ?_));refine ⟨⟨1,by omega,λ _=>h0,λ h=>absurd h (by omega),λ h=>absurd h (by omega),λ h=>absurd h (by omega),λ h=>absurd h (by omega)⟩,id,by dsimp only;omega,?_⟩;exact aI.same (by simp) (by simp [aL,List.lookup,SV.aA,SV.bP,SV.ok,hR]) (hH 7 (by omega)) (λ x hx=>hdrop x _ hx)
  .have con:=BY o (b:=4) (k:=8) (by omega)
   rw [h0] at con;(repeat (first | refine SW.seq ?_ | refine SW.block ?_ | refine SW.g1 [0,1,2,3,4,5,6,8,10,31,32,33,37] Zm (Zq EV gA) con ?_ | refine SW.skip ?_ | refine SW.exit ?_ | refine SW.ret ?_ | refine SW.aj rfl ?_ | refine SW.au rfl ?_));exact End.mk (gx a ca m cm) (h3:=hsub _) (h4:=⟨by rw [hw];rw [if_pos (by simpa using h0)];rfl,rfl⟩) (h6:=dD a ca m cm (by omega))
 | 1,_,w1,_,_,_,_=>
  have z1:=w1 (by omega);rcases (Bool.eq_false_or_eq_true ((jm a ca m cm).gQ o)).symm with h0 | h0
  .have con:=q2
   rw [h0] at con;(repeat (first | refine SW.seq ?_ | refine SW.block ?_ | refine SW.g1 [0,1,2,3,4,5,6,8,10,31,32,33,37] Zm (Zq EW gA) con ?_ | refine SW.skip ?_ | refine SW.exit ?_ | refine SW.ret ?_ | refine SW.aj rfl ?_ | refine SW.au rfl ?_));refine ⟨⟨2,by omega,λ _=>z1,λ _=>h0,λ h=>absurd h (by omega),λ h=>absurd h (by omega),λ h=>absurd h (by omega)⟩,id,by dsimp only;omega,?_⟩;exact aI.same (by simp) (by simp [aL,List.lookup,SV.aA,SV.bP,SV.ok,hR]) (hH 7 (by omega)) (λ x hx=>hdrop x _ hx)
  .have con:=q2
   rw [h0] at con;(repeat (first | refine SW.seq ?_ | refine SW.block ?_ | refine SW.g1 [0,1,2,3,4,5,6,8,10,31,32,33,37] Zm (Zq EW gA) con ?_ | refine SW.skip ?_ | refine SW.exit ?_ | refine SW.ret ?_ | refine SW.aj rfl ?_ | refine SW.au rfl ?_));exact End.mk (gx a ca m cm) (h3:=hsub _) (h4:=⟨by rw [hw];rw [if_neg (by simpa using z1)];rw [if_pos (by simpa using h0)];rfl,rfl⟩) (h6:=dD a ca m cm (by omega))
 | 2,_,w1,w2,_,_,_=>
  have z1:=w1 (by omega);have z2:=w2 (by omega);rcases (Bool.eq_false_or_eq_true (decide (c.hold≠o.who))).symm with h0 | h0
  .have con:=BZ c o (b:=5) (b2:=4) (k:=8) (by omega) (by omega) (by omega)
   rw [h0] at con;(repeat (first | refine SW.seq ?_ | refine SW.block ?_ | refine SW.g1 [0,1,2,3,4,5,6,8,10,31,32,33,37] Zm (Zq EX gA) con ?_ | refine SW.skip ?_ | refine SW.exit ?_ | refine SW.ret ?_ | refine SW.aj rfl ?_ | refine SW.au rfl ?_));refine ⟨⟨3,by omega,λ _=>z1,λ _=>z2,λ _=>h0,λ h=>absurd h (by omega),λ h=>absurd h (by omega)⟩,id,by dsimp only;omega,?_⟩;exact aI.same (by simp) (by simp [aL,List.lookup,SV.aA,SV.bP,SV.ok,hR]) (hH 7 (by omega)) (λ x hx=>hdrop x _ hx)
  .have con:=BZ c o (b:=5) (b2:=4) (k:=8) (by omega) (by omega) (by omega)
   rw [h0] at con;(repeat (first | refine SW.seq ?_ | refine SW.block ?_ | refine SW.g1 [0,1,2,3,4,5,6,8,10,31,32,33,37] Zm (Zq EX gA) con ?_ | refine SW.skip ?_ | refine SW.exit ?_ | refine SW.ret ?_ | refine SW.aj rfl ?_ | refine SW.au rfl ?_));exact End.mk (gx a ca m cm) (h3:=hsub _) (h4:=⟨by rw [hw];rw [if_neg (by simpa using z1)];rw [if_neg (by simpa using z2)];rw [if_pos (by simpa using h0)];rfl,rfl⟩) (h6:=dD a ca m cm (by omega))
 | 3,_,w1,w2,w3,_,_=>
  have z1:=w1 (by omega);have z2:=w2 (by omega);have z3:=w3 (by omega);rcases (Bool.eq_false_or_eq_true ((bits .and .u8 (c.bp:Int) 1 == 0))).symm with h0 | h0
  .have con:=B0 c (b:=5) (k:=8) (by omega)
   rw [h0] at con;(repeat (first | refine SW.seq ?_ | refine SW.block ?_ | refine SW.g1 [0,1,2,3,4,5,6,8,10,31,32,33,37] Zm (Zq EY gA) con ?_ | refine SW.skip ?_ | refine SW.exit ?_ | refine SW.ret ?_ | refine SW.aj rfl ?_ | refine SW.au rfl ?_));refine ⟨⟨4,by omega,λ _=>z1,λ _=>z2,λ _=>z3,λ _=>h0,λ h=>absurd h (by omega)⟩,id,by dsimp only;omega,?_⟩;exact aI.same (by simp) (by simp [aL,List.lookup,SV.aA,SV.bP,SV.ok,hR]) (hH 7 (by omega)) (λ x hx=>hdrop x _ hx)
  .have con:=B0 c (b:=5) (k:=8) (by omega)
   rw [h0] at con;(repeat (first | refine SW.seq ?_ | refine SW.block ?_ | refine SW.g1 [0,1,2,3,4,5,6,8,10,31,32,33,37] Zm (Zq EY gA) con ?_ | refine SW.skip ?_ | refine SW.exit ?_ | refine SW.ret ?_ | refine SW.aj rfl ?_ | refine SW.au rfl ?_));exact End.mk (gx a ca m cm) (h3:=hsub _) (h4:=⟨by rw [hw];rw [if_neg (by simpa using z1)];rw [if_neg (by simpa using z2)];rw [if_neg (by simpa using z3)];rw [if_pos (by simpa using h0)];rfl,rfl⟩) (h6:=dD a ca m cm (by omega))
 | 4,_,w1,w2,w3,w4,_=>
  have z1:=w1 (by omega);have z2:=w2 (by omega);have z3:=w3 (by omega);have z4:=w4 (by omega);rcases (Bool.eq_false_or_eq_true (ic o c)).symm with h0 | h0
  .have con:=B1 c o (b:=5) (b2:=4) (k:=8) (by omega) (by omega) (by omega)
   rw [h0] at con;(repeat (first | refine SW.seq ?_ | refine SW.block ?_ | refine SW.g1 [0,1,2,3,4,5,6,8,10,31,32,33,37] Zm (Zq EZ gA) con ?_ | refine SW.skip ?_ | refine SW.exit ?_ | refine SW.ret ?_ | refine SW.aj rfl ?_ | refine SW.au rfl ?_));refine ⟨⟨5,by omega,λ _=>z1,λ _=>z2,λ _=>z3,λ _=>z4,λ _=>h0⟩,id,by dsimp only;omega,?_⟩;exact aI.same (by simp) (by simp [aL,List.lookup,SV.aA,SV.bP,SV.ok,hR]) (hH 7 (by omega)) (λ x hx=>hdrop x _ hx)
  .have con:=B1 c o (b:=5) (b2:=4) (k:=8) (by omega) (by omega) (by omega)
   rw [h0] at con;(repeat (first | refine SW.seq ?_ | refine SW.block ?_ | refine SW.g1 [0,1,2,3,4,5,6,8,10,31,32,33,37] Zm (Zq EZ gA) con ?_ | refine SW.skip ?_ | refine SW.exit ?_ | refine SW.ret ?_ | refine SW.aj rfl ?_ | refine SW.au rfl ?_));exact End.mk (gx a ca m cm) (h3:=hsub _) (h4:=⟨by rw [hw];rw [if_neg (by simpa using z1)];rw [if_neg (by simpa using z2)];rw [if_neg (by simpa using z3)];rw [if_neg (by simpa using z4)];rw [if_pos (by simpa using h0)];rfl,rfl⟩) (h6:=dD a ca m cm (by omega))
 | 5,_,w1,w2,w3,w4,w5=>
  have z1:=w1 (by omega);have z2:=w2 (by omega);have z3:=w3 (by omega);have z4:=w4 (by omega);have z5:=w5 (by omega);(repeat (first | refine SW.seq ?_ | refine SW.block ?_ | refine SW.g0 [0,1,2,3,4,5,6,8,10,31,32,33,37] Zm af ?_ | refine SW.skip ?_ | refine SW.exit ?_ | refine SW.ret ?_ | refine SW.aj rfl ?_ | refine SW.au rfl ?_));exact End.mk (gx a ca m cm) (h3:=hsub7) (h4:=⟨by rw [hw];rw [if_neg (by simpa using z1)];rw [if_neg (by rw [z2];simp)];rw [if_neg (by simpa using z3)];rw [if_neg (by simpa using z4)];rw [if_neg (by simpa using z5)];rfl,rfl⟩) (h6:=dD a ca m cm (by omega))
end
end
section
theorem nT (T:Tr)(k:Nat):Hp.aA (ff [T.bx,T.ma,T.mm] k) (gx T.at_ T.ca T.made T.cm)=T.hp:=by
 simp only [Hp.aA,gx,List.map_cons,List.map_nil,Ob.aA,SV.aQ,SV.aA,dV,bA,Tr.hp];rfl
theorem Tr.MO {T:Tr}(h:T.sep):([T.bx,T.ma,T.mm]:List Nat).Nodup:=Tr.nd h
theorem sR (a:MM Dt Cr)(ca:Nat)(m:MM Dt ag)(cm:Nat):∀ i,i<3->lk (gx a ca m cm) i≠none:=λ i hi=>by
 rcases (show i=0\/i=1\/i=2 by omega) with rfl | rfl | rfl <;> simp [aa]
theorem E1 {T:Tr}(hs:T.sep)(o:ag)(k:Nat):aJ Tryz.prog tree_Tree_Why.f [.ptr T.bx 0,.agg o.cells] T.hp k 4 (i64 (T.why o)) T.hp:=by
 have h:=SB.nM [T.bx,T.ma,T.mm] (KJ T.at_ T.ca T.made T.cm o) (Tr.MO hs) (sR _ _ _ _) k;rw [nT] at h;simp only [SV.aQ,SV.aA,ag.ax] at h;exact h
section
attribute [local irreducible] SW RW aJ SC ai an
theorem KL (a:MM Dt Cr)(ca:Nat)(m:MM Dt ag)(cm:Nat)(d:Dt):SB Tryz.prog tree_Tree_Get.f [.ptr 0 0,.agg d.cells] (gx a ca m cm) 3 3 (λ r F'=>r= .eu [.agg ((MM.get a d).getD Cr.zero).cells,i64 (if MM.has a d then 0 else 7)]/\F'=gx a ca m cm):=by
 refine tree_Tree_Get.enter (by simp [SV.ay,SV.ok]) (dD a ca m cm (Nat.le_refl 3)) (by simp) ?_;dsimp only [tree_Tree_Get.s,Co.M,Co.J,Co.F,Co.Z,Co.b8,Co.aB,Co.bN,Co.i6,Co.T,Co.K,Co.E,Co.P,Co.x,Co.W,Co.O,Co.D,Co.A,Co.S];rcases hh:MM.has a d with _ | _
 ·(repeat (first | refine SW.seq ?_ | refine SW.block ?_ | (refine SW.dL [0,1,3,4,5,6,7,9,21] Zm ?_;(repeat (first | refine RW.ro hh (h:= ?_) | refine RW.skip (h:= ?_) | refine RW.op hh (h:= ?_) | refine RW.dQ hh (h:= ?_) | refine RW.bF (h:= ?_) | (refine RW.bC (h:= ?_);(first | refine ai.mk (hh) (hc:=lF a ca m cm (by omega)) (h:= ?_)))));refine RW.nil ⟨by kernel_rfl,an.mk (h:= ?_)⟩) | refine SW.skip ?_ | refine SW.exit ?_ | refine SW.ret ?_ | refine SW.aj rfl ?_ | refine SW.au rfl ?_))
  have e:MM.get a d=none:=by simpa [MM.has] using hh
  rw [e];refine End.mk (gx a ca m cm) (h4:=⟨rfl,rfl⟩) (h6:=dD a ca m cm (by omega))
 ·(repeat (first | refine SW.seq ?_ | refine SW.block ?_ | (refine SW.dL [0,1,3,4,5,6,7,9,21] Zm ?_;(repeat (first | refine RW.ro hh (h:= ?_) | refine RW.skip (h:= ?_) | refine RW.op hh (h:= ?_) | refine RW.dQ hh (h:= ?_) | refine RW.bF (h:= ?_) | (refine RW.bC (h:= ?_);(first | refine ai.mk (hh) (hc:=lF a ca m cm (by omega)) (h:= ?_)))));refine RW.nil ⟨by kernel_rfl,an.mk (h:= ?_)⟩) | refine SW.skip ?_ | refine SW.exit ?_ | refine SW.ret ?_ | refine SW.aj rfl ?_ | refine SW.au rfl ?_))
  refine End.mk (gx a ca m cm) (h4:=⟨rfl,rfl⟩) (h6:=dD a ca m cm (by omega))
theorem get_at {T:Tr}(hs:T.sep)(d:Dt)(k:Nat):aJ Tryz.prog tree_Tree_Get.f [.ptr T.bx 0,.agg d.cells] T.hp k 3 (.eu [.agg ((MM.get T.at_ d).getD Cr.zero).cells,i64 (if MM.has T.at_ d then 0 else 7)]) T.hp:=by
 have h:=SB.nM [T.bx,T.ma,T.mm] (KL T.at_ T.ca T.made T.cm d) (Tr.MO hs) (sR _ _ _ _) k;rw [nT] at h;simp only [SV.aQ,SV.aA,Dt.ax,Cr.ax] at h;exact h
end
@[simp] theorem Oc (d:Dt):(cG Cr.zero.cells 0 d.cells).length=11:=rfl
@[simp] theorem Od (d e:Dt):(cG (cG Cr.zero.cells 0 d.cells) 2 e.cells).length=11:=rfl
@[simp] theorem Oe (d e f:Dt):(cG (cG (cG Cr.zero.cells 0 d.cells) 2 e.cells) 4 f.cells).length=11:=rfl
def u_ (o:ag):Cr:=⟨o.dot,o.dot,⟨0,0⟩,o.who,7,8,1099511627776,0⟩
def AU (T:Tr)(o:ag):Cr:=⟨o.dot,o.aK,o.aM,o.to,o.bp,o.depth,o.cap,IntKind.i64.wrap ((T.by o).level+1)⟩
def Tr.bU (T:Tr)(o:ag):Bool:=(decide (o.kind=0) && !decide (o.aK=o.dot)) || (decide (o.kind=1) && decide (T.why o≠0))
def Tr.oH (T:Tr)(o:ag):Cr:=if o.kind=1 then AU T o else u_ o
def Tr.put (T:Tr)(o:ag):Tr×Bool:=if T.bU o then (T,false) else
 ({ T with at_:=MM.put T.at_ T.ca o.dot (T.oH o),ca:=MM.jh T.at_ T.ca o.dot,made:=MM.put T.made T.cm o.dot o,cm:=MM.jh T.made T.cm o.dot},true)
theorem pV (d:Dt)(who:Nat):cG (cG (cG (cG (cG (cG Cr.zero.cells 0 d.cells) 2 d.cells) 6 [.d (.int .u32 (who:Int))]) 7 [.d (.int .u8 7)]) 8 [.d (.int .u8 8)]) 9 [.d (.int .u64 1099511627776)]=(⟨d,d,⟨0,0⟩,who,7,8,1099511627776,0⟩:Cr).cells:=rfl
theorem AV (d e f:Dt)(a b c g:Nat)(l:Int):cG (cG (cG (cG (cG (cG (cG (cG Cr.zero.cells 0 d.cells) 2 e.cells) 4 f.cells) 6 [.d (.int .u32 (a:Int))]) 7 [.d (.int .u8 (b:Int))]) 8 [.d (.int .u8 (c:Int))]) 9 [.d (.int .u64 (g:Int))]) 10 [.d (.int .i64 l)]=(⟨d,e,f,a,b,c,g,l⟩:Cr).cells:=rfl
section
attribute [local irreducible] SW RW aJ SC ai an Tr.why
set_option maxHeartbeats 4000000 in
theorem KN (a:MM Dt Cr)(ca:Nat)(m:MM Dt ag)(cm:Nat)(hw1:MM.wf a ca)(L9:MM.wf m cm)(o:ag):
  SB Tryz.prog tree_Tree_put.f [.ptr 0 0,.agg o.cells] (gx a ca m cm) 3 2 (λ r F'=>r=bl ((jm a ca m cm).put o).2/\F'=gx ((jm a ca m cm).put o).1.at_ ((jm a ca m cm).put o).1.ca ((jm a ca m cm).put o).1.made ((jm a ca m cm).put o).1.cm):=by
 refine tree_Tree_put.enter (by simp [SV.ay,SV.ok]) (dD a ca m cm (Nat.le_refl 3)) (by simp) ?_;dsimp only [tree_Tree_put.s,Co.M,Co.G,Co.J,Co.H,Co.N,Co.F,Co.C,Co.Z,Co.B,Co.b8,Co.aB,Co.bN,Co.i6,Co.bW,Co.T,Co.K,Co.E,Co.x,Co.W,Co.Y,Co.U,Co.D,Co.A,Co.S];obtain ⟨W,hW⟩:∃ W,(jm a ca m cm).why o=W:=⟨_,rfl⟩;have cw:aJ Tryz.prog tree_Tree_Why.f [.ptr 0 0,.agg o.cells] (gx a ca m cm) 5 4 (i64 W) (gx a ca m cm):=by
  rw [<- hW];exact E1 (pU a ca m cm) o 5
 refine SW.seq ?_
 (refine SW.dL [0,1,3,4,5,13,35] Zm ?_;(repeat (first | refine RW.ro af (h:= ?_) | refine RW.skip (h:= ?_) | refine RW.op af (h:= ?_) | refine RW.dQ af (h:= ?_) | refine RW.bF (h:= ?_) | (refine RW.bC (h:= ?_);(first | refine ai.mk af (hc:=lF a ca m cm (by omega)) (h:= ?_)))));refine RW.nil ⟨by kernel_rfl,an.mk (h:= ?_)⟩)
 refine SW.seq ?_
 (refine SW.dL [0,1,3,4,5,13,35] Zm ?_;(repeat (first | refine RW.ro pV (h:= ?_) | refine RW.skip (h:= ?_) | refine RW.op pV (h:= ?_) | refine RW.dQ pV (h:= ?_) | refine RW.bF (h:= ?_) | (refine RW.bC (h:= ?_);(first | refine ai.mk (pV) (hc:=lF a ca m cm (by omega)) (h:= ?_)))));refine RW.nil ⟨by kernel_rfl,an.mk (h:= ?_)⟩)
 refine SW.seq ?_;have ok9:∀ (a':MM Dt Cr) ca' (m':MM Dt ag) cm',Hp.ok (λ x=>decide (x<3+2)) (gx a' ca' m' cm')=true:=λ a' ca' m' cm'=>dD a' ca' m' cm' (by omega)
 have hR:∀ v,(jm a ca m cm).bU o=v->((decide (o.kind=0) && !decide (o.aK=o.dot)) || (decide (o.kind=1) && decide (W≠0)))=v:=λ v h=>by rw [<- h];unfold Tr.bU;rw [hW]
 have k0:(((o.kind:Nat):Int) == 0)=decide (o.kind=0):=by rw [Bool.eq_iff_iff];simp only [beq_iff_eq,decide_eq_true_eq];omega
 have k1:(((o.kind:Nat):Int) == 1)=decide (o.kind=1):=by rw [Bool.eq_iff_iff];simp only [beq_iff_eq,decide_eq_true_eq];omega
 have kW:(((W:Nat):Int) != 0)=decide (W≠0):=by rw [Bool.eq_iff_iff];simp only [bne_iff_ne,decide_eq_true_eq];omega
 have fe1:=t_ (vs:=cv) (kc:=Dt.cells) hw1 o.dot Cr.zero;have fe2:=t_ (vs:=ov) (kc:=Dt.cells) L9 o.dot ag.zero;have gb:=λ l=>AV o.dot o.aK o.aM o.to o.bp o.depth o.cap l
 have ee:(MM.get a o.aM).getD Cr.zero=(jm a ca m cm).by o:=rfl
 -- it is refused
 have fin0:∀ env,(jm a ca m cm).bU o=true->(env:List (Nat×SV)).lookup 4=some (bl false)->∀ X:Hp,HSub (gx a ca m cm) X->∀ K,5<=K->Sl.Fin 3 2 tree_Tree_put.rv (λ r F'=>r=bl ((jm a ca m cm).put o).2/\F'=gx ((jm a ca m cm).put o).1.at_ ((jm a ca m cm).put o).1.ca ((jm a ca m cm).put o).1.made ((jm a ca m cm).put o).1.cm) ⟨env,X,K⟩:=λ env hr he X hX K hK=>by
  have e:(jm a ca m cm).put o=(jm a ca m cm,false):=by unfold Tr.put;rw [if_pos hr]
  rw [e];exact End.mk (ss:=[bl false]) (ob:=True) (gx a ca m cm) (h1:=by simp [tree_Tree_put.rv,D1,he]) (h2:=trivial) (h3:=hX) (h4:=⟨rfl,rfl⟩) (h5:=rfl) (h6:=ok9 _ _ _ _) (h7:=by simpa using hK)
 rcases (Bool.eq_false_or_eq_true (decide (o.kind=0))).symm with d0 | d0
 .rcases (Bool.eq_false_or_eq_true (decide (o.kind=1))).symm with d1 | d1
  .skip
   have hr:(jm a ca m cm).bU o=false:=by unfold Tr.bU;rw [hW,d0,d1];rfl
   have e:(jm a ca m cm).put o=(({ jm a ca m cm with at_:=MM.put a ca o.dot (u_ o),ca:=MM.jh a ca o.dot,made:=MM.put m cm o.dot o,cm:=MM.jh m cm o.dot}:Tr),true):=by
    unfold Tr.put Tr.oH;rw [if_neg (by rw [hr];simp),if_neg (by simpa using d1)]
   rw [e];(repeat (first | refine SW.seq ?_ | refine SW.block ?_ | refine SW.g1 [0,1,3,4,5,13,35] Zm (Zq k0 (Zq k1 (Zq kW (Zq d0 (Zq d1 (Zq fe1 fe2)))))) cw ?_ | refine SW.skip ?_ | refine SW.exit ?_ | refine SW.ret ?_ | refine SW.aj rfl ?_ | refine SW.au rfl ?_));exact End.mk (gx _ _ _ _) (h4:=⟨rfl,rfl⟩) (h6:=ok9 _ _ _ _)
  .rcases (Bool.eq_false_or_eq_true (decide (W≠0))).symm with dW | dW
   .skip
    have hr:(jm a ca m cm).bU o=false:=by unfold Tr.bU;rw [hW,d0,d1,dW];rfl
    have e:(jm a ca m cm).put o=(({ jm a ca m cm with at_:=MM.put a ca o.dot (AU (jm a ca m cm) o),ca:=MM.jh a ca o.dot,made:=MM.put m cm o.dot o,cm:=MM.jh m cm o.dot}:Tr),true):=by
     unfold Tr.put Tr.oH;rw [if_neg (by rw [hr];simp),if_pos (by simpa using d1)]
    rw [e];(repeat (first | refine SW.seq ?_ | refine SW.block ?_ | refine SW.g1 [0,1,3,4,5,13,35] Zm (Zq k0 (Zq k1 (Zq kW (Zq d0 (Zq d1 (Zq dW (Zq gb (Zq ee (Zq fe1 fe2))))))))) cw ?_ | refine SW.skip ?_ | refine SW.exit ?_ | refine SW.ret ?_ | refine SW.aj rfl ?_ | refine SW.au rfl ?_));exact End.mk (gx _ _ _ _) (h4:=⟨rfl,rfl⟩) (h6:=ok9 _ _ _ _)
   .have hr:(jm a ca m cm).bU o=true:=by unfold Tr.bU;rw [hW,d0,d1,dW];rfl
    (repeat (first | refine SW.seq ?_ | refine SW.block ?_ | refine SW.g1 [0,1,3,4,5,13,35] Zm (Zq k0 (Zq k1 (Zq kW (Zq d0 (Zq d1 dW))))) cw ?_ | refine SW.skip ?_ | refine SW.exit ?_ | refine SW.ret ?_ | refine SW.aj rfl ?_ | refine SW.au rfl ?_));exact fin0 _ hr rfl _ (by repeat (first | exact HSub.nil _ | refine HSub.cons (by rfl) ?_)) _ (by simp)
 .rcases (Bool.eq_false_or_eq_true (decide (o.aK=o.dot))).symm with dc | dc
  .have hr:(jm a ca m cm).bU o=true:=by unfold Tr.bU;rw [d0,dc];rfl
   (repeat (first | refine SW.seq ?_ | refine SW.block ?_ | refine SW.g1 [0,1,3,4,5,13,35] Zm (Zq k0 (Zq k1 (Zq kW (Zq d0 dc)))) cw ?_ | refine SW.skip ?_ | refine SW.exit ?_ | refine SW.ret ?_ | refine SW.aj rfl ?_ | refine SW.au rfl ?_));exact fin0 _ hr rfl _ (by repeat (first | exact HSub.nil _ | refine HSub.cons (by rfl) ?_)) _ (by simp)
  .have d1:decide (o.kind=1)=false:=by simp at d0 ⊢;omega
   have hr:(jm a ca m cm).bU o=false:=by unfold Tr.bU;rw [d0,d1,dc];rfl
   have e:(jm a ca m cm).put o=(({ jm a ca m cm with at_:=MM.put a ca o.dot (u_ o),ca:=MM.jh a ca o.dot,made:=MM.put m cm o.dot o,cm:=MM.jh m cm o.dot}:Tr),true):=by
    unfold Tr.put Tr.oH;rw [if_neg (by rw [hr];simp),if_neg (by simpa using d1)]
   rw [e];(repeat (first | refine SW.seq ?_ | refine SW.block ?_ | refine SW.g1 [0,1,3,4,5,13,35] Zm (Zq k0 (Zq k1 (Zq kW (Zq d0 (Zq d1 (Zq dc (Zq fe1 fe2))))))) cw ?_ | refine SW.skip ?_ | refine SW.exit ?_ | refine SW.ret ?_ | refine SW.aj rfl ?_ | refine SW.au rfl ?_));exact End.mk (gx _ _ _ _) (h4:=⟨rfl,rfl⟩) (h6:=ok9 _ _ _ _)
end
end
section
theorem Tr.put_eq (T:Tr)(o:ag):T.put o=({ T with at_:=((jm T.at_ T.ca T.made T.cm).put o).1.at_,ca:=((jm T.at_ T.ca T.made T.cm).put o).1.ca,made:=((jm T.at_ T.ca T.made T.cm).put o).1.made,cm:=((jm T.at_ T.ca T.made T.cm).put o).1.cm},((jm T.at_ T.ca T.made T.cm).put o).2):=by
 have e:T.bU o=(jm T.at_ T.ca T.made T.cm).bU o:=rfl;have e2:T.oH o=(jm T.at_ T.ca T.made T.cm).oH o:=rfl;unfold Tr.put;rw [e]
 by_cases h:(jm T.at_ T.ca T.made T.cm).bU o=true
 .rw [if_pos h,if_pos h]
 .rw [if_neg h,if_neg h,e2]
theorem Tr.sS (T:Tr)(o:ag):(T.put o).1.bx=T.bx/\(T.put o).1.ma=T.ma/\(T.put o).1.mm=T.mm:=by rw [Tr.put_eq];exact ⟨rfl,rfl,rfl⟩
theorem KO {T:Tr}(hs:T.sep)(hw1:MM.wf T.at_ T.ca)(L9:MM.wf T.made T.cm)(o:ag)(k:Nat):aJ Tryz.prog tree_Tree_put.f [.ptr T.bx 0,.agg o.cells] T.hp k 2 (bl (T.put o).2) (T.put o).1.hp:=by
 have h:=SB.nM [T.bx,T.ma,T.mm] (KN T.at_ T.ca T.made T.cm hw1 L9 o) (Tr.MO hs) (sR _ _ _ _) k;rw [nT] at h;have h2:=nT (T.put o).1 k;obtain ⟨n1,n2,n3⟩:=T.sS o;rw [n1,n2,n3] at h2;have e:=T.put_eq o;simp only [SV.aQ,SV.aA,ag.ax] at h;rw [<- h2];rw [e];exact h
theorem Tr.E2 {T:Tr}(hw1:MM.wf T.at_ T.ca)(L9:MM.wf T.made T.cm)(o:ag):MM.wf (T.put o).1.at_ (T.put o).1.ca/\MM.wf (T.put o).1.made (T.put o).1.cm:=by
 unfold Tr.put
 split
 .exact ⟨hw1,L9⟩
 .exact ⟨MM.fV hw1 _ _,MM.fV L9 _ _⟩
structure mH (b a m:Nat) where
 T:Tr
 e1:T.bx=b
 e2:T.ma=a
 e3:T.mm=m
def mH.step {b a m:Nat}(s:mH b a m)(o:ag):mH b a m×Bool:=(⟨(s.T.put o).1,(s.T.sS o).1.trans s.e1,(s.T.sS o).2.1.trans s.e2,(s.T.sS o).2.2.trans s.e3⟩,(s.T.put o).2)
theorem Im {b a m:Nat}(h1:a≠b)(h2:m≠b)(h3:a≠m)(B:Nat):
  xu Tryz.prog 123 [.ptr b 0] [] (λ s:mH b a m=>s.T.hp) mH.step 2 (λ _ s=>MM.wf s.T.at_ s.T.ca/\MM.wf s.T.made s.T.cm) (λ _=>True) B where
 nd s:=Tr.nd ⟨by rw [s.e1,s.e2];exact h1,by rw [s.e1,s.e3];exact h2,by rw [s.e2,s.e3];exact h3⟩
 nm s x:=by
  obtain ⟨n1,n2,n3⟩:=s.T.sS x;show ((s.T.put x).1.hp).map (·.1)=s.T.hp.map (·.1);rw [Tr.names,Tr.names,n1,n2,n3]
 nx i s x hI _ _:=Tr.E2 hI.1 hI.2 x
 ok s x q h:=by
  obtain ⟨n1,n2,n3⟩:=s.T.sS x;simp only [Hp.ok,List.all_eq_true,Bool.and_eq_true] at h;have hm:∀ n,n∈s.T.hp.map (·.1)->q n=true:=λ n hn=>by
   obtain ⟨y,hy,rfl⟩:=List.mem_map.1 hn;exact (h y hy).1
  rw [Tr.names] at hm;exact Tr.NR (by rw [show (s.step x).1.T.bx=s.T.bx from n1];exact hm _ (by simp)) (by rw [show (s.step x).1.T.ma=s.T.ma from n2];exact hm _ (by simp)) (by rw [show (s.step x).1.T.mm=s.T.mm from n3];exact hm _ (by simp))
 call i s x k hI _ _ _:=by
  have:=KO (T:=s.T) ⟨by rw [s.e1,s.e2];exact h1,by rw [s.e1,s.e3];exact h2,by rw [s.e2,s.e3];exact h3⟩ hI.1 hI.2 x k;rw [s.e1] at this;exact this
 a1 s q h:=by
  simp only [Hp.ok,List.all_eq_true,Bool.and_eq_true] at h;have:=(h (s.T.bx,_) (kX s.T.JP)).1;rw [s.e1] at this;exact ⟨by simp only [SV.ay,SV.ok,Bool.and_true];exact this,rfl⟩
structure On where
 L:MM Dt Int
 c:Nat
def On.hp (b m:Nat)(s:On):Hp:=[(b,.box 114 [.mp m]),(m,.map (ah Dt.cells iv s.L) s.c)]
def On.cnt (s:On)(d:Dt):Int:=(MM.get s.L d).getD 0
def On.step (s:On)(o:ag):On×Bool:=(⟨MM.put s.L s.c o.dot (s.cnt o.dot+1),MM.jh s.L s.c o.dot⟩,decide (s.cnt o.dot+1>1) || decide (o.kind>1))
section
attribute [local irreducible] SW RW aJ SC ai an
set_option maxHeartbeats 1000000 in
theorem Io (s:On)(hw:MM.wf s.L s.c)(o:ag)(hb:0<=s.cnt o.dot/\s.cnt o.dot<1000000000):SB Tryz.prog tree_New_1.f [.agg o.cells,.ptr 0 0] [(0,.box 114 [.mp 1]),(1,.map (ah Dt.cells iv s.L) s.c)] 2 1
  (λ r F'=>r=bl (s.step o).2/\F'=[(0,.box 114 [.mp 1]),(1,.map (ah Dt.cells iv (s.step o).1.L) (s.step o).1.c)]):=by
 refine tree_New_1.enter (by simp [SV.ay,SV.ok]) (by simp [Hp.ok,Ob.ok,SV.ay,SV.ok,bB]) (by simp) ?_;dsimp only [tree_New_1.s,Co.M,Co.J,Co.H,Co.N,Co.F,Co.B,Co.b8,Co.i6,Co.T,Co.K,Co.E,Co.x,Co.Y,Co.D,Co.S];have fe:=t_ (vs:=iv) (kc:=Dt.cells) hw o.dot 0;have e0:(MM.get s.L o.dot).getD 0=s.cnt o.dot:=rfl;have e1:IntKind.i64.wrap (s.cnt o.dot+1)=s.cnt o.dot+1:=wrap_i64 _ (by omega);have e2:(MM.get (MM.put s.L s.c o.dot (s.cnt o.dot+1)) o.dot).getD 0=s.cnt o.dot+1:=by rw [MM.bT,if_pos rfl];rfl
 have e3:decide ((o.kind:Int)>1)=decide (o.kind>1):=by rw [Bool.eq_iff_iff];simp only [decide_eq_true_eq];omega
 refine SW.seq (SW.g0 [0,1,2,3] Zm af ?_);refine SW.cut (stM:=⟨[(2,.ptr 2 0),(1,.ptr 0 0)],[(2,.box 43 o.cells),(0,.box 114 [.mp 1]),(1,.map (ah Dt.cells iv (s.step o).1.L) (s.step o).1.c)],3⟩) id (SW.tree Zm ?_) ?_
 .have e3':(MM.get (MM.ya s.L s.c o.dot 0) o.dot).getD 0=s.cnt o.dot:=by
   unfold MM.ya On.cnt;cases hh:MM.idx s.L o.dot with
   | none=>
    have h1:=MM.lp.1 hh;have h2:s.L.find? (λ x=>decide (o.dot=x.2.1))=none:=by
     unfold MM.get at h1
     simpa using h1
    rw [h1];simp [MM.get,List.find?_append,h2]
   | some i=>rfl
  repeat' (first
   | refine xm.s1 _ (h1:= ?_)
   | refine xm.s2 _ _ (h1:= ?_) (h2:= ?_)
   | refine xm.s3 _ _ _ (h1:= ?_) (h2:= ?_) (h3:= ?_)
   | refine Oa.mk (Zq fe (Zq e0 (Zq e1 e3'))) (h:= ?_))
  all_goals (refine xm.done (by kernel_rfl) (aI.same (by simp) (by simp [aL,List.lookup,SV.aA,SV.ok]) (by simp [Hp.ok,Ob.ok,SV.ay,SV.ok,bB]) (λ x hx=> ?_)))
  all_goals (simp only [List.mem_cons,List.not_mem_nil,or_false] at hx;rcases hx with rfl | rfl | rfl <;> rfl)
 have hE:∀ b,(s.step o).2=b->∀ env:List (Nat×SV),env.lookup 3=some (bl b)->Sl.Fin 2 1 tree_New_1.rv (λ r F'=>r=bl (s.step o).2/\F'=[(0,.box 114 [.mp 1]),(1,.map (ah Dt.cells iv (s.step o).1.L) (s.step o).1.c)]) ⟨env,[(2,.box 43 o.cells),(0,.box 114 [.mp 1]),(1,.map (ah Dt.cells iv (s.step o).1.L) (s.step o).1.c)],3⟩:=λ b hb env he=>
  End.mk (ss:=[bl b]) (ob:=True) [(0,.box 114 [.mp 1]),(1,.map (ah Dt.cells iv (s.step o).1.L) (s.step o).1.c)] (h1:=by simp [tree_New_1.rv,D1,he]) (h2:=trivial) (h3:=by repeat (first | exact HSub.nil _ | refine HSub.cons (by rfl) ?_)) (h4:=⟨by rw [hb];rfl,rfl⟩) (h5:=rfl) (h6:=by simp [Hp.ok,Ob.ok,SV.ay,SV.ok,bB])
 have e5:(MM.get (s.step o).1.L o.dot).getD 0=s.cnt o.dot+1:=e2;rcases (Bool.eq_false_or_eq_true (decide (s.cnt o.dot+1>1))).symm with h1 | h1
 .have er:(s.step o).2=decide (o.kind>1):=by unfold On.step;rw [h1];rfl
  (repeat (first | refine SW.seq ?_ | refine SW.block ?_ | refine SW.g0 [0,1,2,3] Zm (Zq e5 (Zq e3 h1)) ?_ | refine SW.skip ?_ | refine SW.exit ?_ | refine SW.ret ?_ | refine SW.aj rfl ?_ | refine SW.au rfl ?_));exact hE _ er _ rfl
 .have er:(s.step o).2=true:=by unfold On.step;rw [h1];rfl
  (repeat (first | refine SW.seq ?_ | refine SW.block ?_ | refine SW.g0 [0,1,2,3] Zm (Zq e5 (Zq e3 h1)) ?_ | refine SW.skip ?_ | refine SW.exit ?_ | refine SW.ret ?_ | refine SW.aj rfl ?_ | refine SW.au rfl ?_));exact hE _ er _ rfl
end
theorem On.names (b m:Nat)(s:On):(s.hp b m).map (·.1)=[b,m]:=rfl
theorem Ip {b m:Nat}(h1:m≠b)(s:On)(hw:MM.wf s.L s.c)(o:ag)(hb:0<=s.cnt o.dot/\s.cnt o.dot<1000000000)(k:Nat):aJ Tryz.prog tree_New_1.f [.agg o.cells,.ptr b 0] (s.hp b m) k 1 (bl (s.step o).2) ((s.step o).1.hp b m):=by
 have h:=SB.nM [b,m] (Io s hw o hb) (by simp;exact Ne.symm h1) (λ i hi=>by
  rcases (show i=0\/i=1 by simp at hi;omega) with rfl | rfl <;> simp [aa]) k
 simp only [SV.aQ,SV.aA,ag.ax,Hp.aA,List.map_cons,List.map_nil,Ob.aA,cM] at h;exact h
theorem E3 {b m:Nat}(h1:m≠b):
  xu Tryz.prog 122 [] [.ptr b 0] (On.hp b m) On.step 1 (λ i s=>MM.wf s.L s.c/\∀ d,0<=s.cnt d/\s.cnt d<=(i:Int)) (λ _=>True) 1000000000 where
 nd s:=by rw [On.names];simp;exact Ne.symm h1
 nm s x:=rfl
 nx i s x hI _ hi:=by
  refine ⟨MM.fV hI.1 _ _,λ d=> ?_⟩;have hx:=hI.2 x.dot;show 0<=(MM.get (MM.put s.L s.c x.dot (s.cnt x.dot+1)) d).getD 0/\(MM.get (MM.put s.L s.c x.dot (s.cnt x.dot+1)) d).getD 0<=((i+1:Nat):Int);rw [MM.bT]
  split
  .simp only [Option.getD_some];omega
  .have:=hI.2 d
   unfold On.cnt at this;omega
 ok s x q h:=by
  simp only [Hp.ok,On.hp,List.all_cons,List.all_nil,Ob.ok,SV.ay,SV.ok,bB,Bool.and_true] at h ⊢;exact h
 call i s x k hI _ hi _:=Ip h1 s hI.1 x (by have:=hI.2 x.dot;omega) k
 a1 s q h:=by
  simp only [Hp.ok,On.hp,List.all_cons,List.all_nil,Ob.ok,SV.ay,SV.ok,bB,Bool.and_true,Bool.and_eq_true] at h ⊢;exact ⟨trivial,h.1.1⟩
end
section
abbrev TS:=mH 2 0 1
def KP:TS:=⟨⟨2,0,1,[],0,[],0⟩,rfl,rfl,rfl⟩
def grow:Nat->TS->List ag->TS
 | 0,s,W=>s
 | f+1,s,W=>if (bM mH.step s W).1.length<W.length then grow f (bM mH.step s W).2 (bM mH.step s W).1 else (bM mH.step s W).2
theorem xx:∀ (f g:Nat) (s:TS) (W:List ag),W.length<f->W.length<g->grow f s W=grow g s W
 | 0,g,s,W,h,_=>by omega
 | f+1,0,s,W,_,h=>by omega
 | f+1,g+1,s,W,h1,h2=>by
  simp only [grow]
  split
  .exact xx f g _ _ (by omega) (by omega)
  .rfl
theorem C0 {s:TS}{W:List ag}(h:(bM mH.step s W).1.length<W.length):grow (W.length+1) s W=grow ((bM mH.step s W).1.length+1) (bM mH.step s W).2 (bM mH.step s W).1:=by
 rw [show grow (W.length+1) s W=grow W.length (bM mH.step s W).2 (bM mH.step s W).1 by simp only [grow];rw [if_pos h]];exact xx _ _ _ _ h (Nat.lt_succ_self _)
theorem E4 {s:TS}{W:List ag}(h: ¬ (bM mH.step s W).1.length<W.length):grow (W.length+1) s W=(bM mH.step s W).2:=by
 simp only [grow];rw [if_neg h]
def firsts (l:List ag):List ag:=(bM On.step ⟨[],0⟩ l).1
def bh (l:List ag):Tr:=(grow ((firsts l).length+1) KP (firsts l)).T
theorem mH.sep (s:mH 2 0 1):s.T.sep:=⟨by rw [s.e1,s.e2];decide,by rw [s.e1,s.e3];decide,by rw [s.e2,s.e3];decide⟩
theorem mH.lt (s:mH 2 0 1){k:Nat}(h:3<=k):s.T.lt k:=⟨by rw [s.e1];omega,by rw [s.e2];omega,by rw [s.e3];omega⟩
def mH.wf (s:mH 2 0 1):Prop:=MM.wf s.T.at_ s.T.ca/\MM.wf s.T.made s.T.cm
theorem KQ:KP.wf:=⟨MM.j7,MM.j7⟩
theorem B2:∀ (W:List ag) (s:TS),s.wf->(bM mH.step s W).2.wf
 | [],s,h=>h
 | x::W,s,h=>B2 W _ (Tr.E2 h.1 h.2 x)
theorem KR:KP.T.hp=[(2,.box 166 [.mp 0,.mp 1]),(0,.map [] 0),(1,.map [] 0)]:=rfl
section
attribute [local irreducible] SW RW aJ SC ai an Tr.hp
set_option maxHeartbeats 4000000 in
theorem KS (l:List ag)(hl:l.length<1000000000):SB Tryz.prog tree_New.f [ops l] [] 0 7 (λ r F'=>r= .ptr 2 0/\F'=(bh l).hp):=by
 refine tree_New.enter (by first | rfl | simp [SV.ok,SV.ay]) (by first | rfl | simp [Hp.ok,Ob.ok,SV.ok,SV.ay,aD.aq]) (by simp) ?_;dsimp only [tree_New.s,Co.M,Co.J,Co.F,Co.B,Co.L,Co.P,Co.Q,Co.x,Co.W,Co.V,Co.S];have spl1:∀ (x y:SV),cG [x] 0 [y]=[y]:=λ _ _=>rfl
 have splm:∀ (x y a b:SV),cG (cG [x,y] 0 [a]) 1 [b]=[a,b]:=λ _ _ _ _=>rfl
 refine SW.seq (SW.g0 [0,2,3,4,5,6,7,17] Zm af ?_);refine SW.seq (SW.g0 [0,2,3,4,5,6,7,17] Zm splm ?_);refine SW.seq (SW.g0 [0,2,3,4,5,6,7,17] Zm spl1 ?_);have ho:(On.hp 4 3 ⟨[],0⟩)=[(4,.box 114 [.mp 3]),(3,.map [] 0)]:=rfl;have h0:mC (On.hp 4 3) 6 7 ⟨[],0⟩ ⟨[],0⟩:=⟨rfl,by decide,by rw [ho];rfl⟩;have cD:=u7 (E3 (b:=4) (m:=3) (by omega)) l ⟨[],0⟩ hl (Nat.le_of_lt hl) (λ _ _=>trivial) ⟨MM.j7,λ d=>by simp [On.cnt,MM.get]⟩ 6 7 (by omega) h0 (by decide);obtain ⟨s1,hs1⟩:∃ s1,(bM On.step ⟨[],0⟩ l).2=s1:=⟨_,rfl⟩;have hf:(bM On.step ⟨[],0⟩ l).1=firsts l:=rfl;rw [hs1,hf] at cD
 have cD:aJ Tryz.prog slices_DeleteFunc_Lapi_Op_api_Op.f [.gs 6 l.length,.fn (.func 122) [] [.ptr 4 0]] [(6,.arr 43 29 l.length (jL l)),(4,.box 114 [.mp 3]),(3,.map [] 0)] 7 (l.length*1+l.length*(1+1)) (.gs 6 (firsts l).length)
   [(6,.arr 43 29 (firsts l).length (jL (firsts l))),(4,.box 114 [.mp 3]),(3,.map (ah Dt.cells iv s1.L) s1.c)]:=cD
 refine SW.seq (SW.g2 [0,2,3,4,5,6,7,17] Zm af (ER l hl 5) cD ?_);obtain ⟨K,hK,hK7⟩:∃ K,7+(l.length*1+l.length*(1+1))=K/\7<=K:=⟨_,rfl,by omega⟩;rw [hK];have hlen:(firsts l).length<=l.length:=pT On.step l ⟨[],0⟩;refine SW.weak id (st1:=⟨[(3,.ptr 2 0),(5,.gs 6 (firsts l).length)],(6,.arr 43 29 (firsts l).length (jL (firsts l)))::KP.T.hp,K⟩) (aI.same (by simp) (by simp [aL,List.lookup,SV.aA,SV.ok];omega) (ak (by simp;omega) (SV.bg _) (Tr.tB (KP.lt (by show 3<=K;omega)))) (λ x hx=> ?_)) ?_
 .rcases List.mem_cons.1 hx with rfl | hx
  .rfl
  .rw [KR] at hx
   simp only [List.mem_cons,List.not_mem_nil,or_false] at hx;rcases hx with rfl | rfl | rfl <;> rfl
 refine SW.seq (SW.seq (SW.g0 [0,2,3,4,5,6,7,17] Zm af ?_));refine SW.block ?_
 let Inv:Bool->List ag->TS->Prop:=λ b W s=>W.length<=l.length/\s.wf/\(if b then grow (W.length+1) s W else s).T=bh l
 have hok:∀ (W:List ag) (s:TS) (k:Nat),7<=k->Hp.ok (λ n=>decide (n<k)) ((6,.arr 43 29 W.length (jL W))::s.T.hp)=true:=λ W s k hk=>ak (by simp;omega) (SV.bg _) (Tr.tB (s.lt (by omega)))
 have h6:∀ s:TS,lk s.T.hp 6=none:=λ s=>Tr.Pt (s.lt (Nat.le_refl 3)) (by omega)
 have ny:∀ (W:List ag) (s:TS),(((6,Ob.arr 43 29 W.length (jL W))::s.T.hp:Hp).map (·.1)).Nodup:=λ W s=>jM (h6 s) (Tr.nd s.sep)
 refine SW.loop (α:={x:Bool×List ag×TS×Nat // Inv x.1 x.2.1 x.2.2.1/\7<=x.2.2.2}) (λ x=>⟨[(6,bl x.1.1),(3,.ptr 2 0),(5,.gs 6 x.1.2.1.length)],(6,.arr 43 29 x.1.2.1.length (jL x.1.2.1))::x.1.2.2.1.T.hp,x.1.2.2.2⟩) (λ x=>2*x.1.2.1.length+(if x.1.1 then 1 else 0))
  ⟨(true,firsts l,KP,K),⟨hlen,KQ,rfl⟩,hK7⟩ id ?_ ?_
 .exact aI.same (by simp) (by simp [aL,List.lookup,SV.aA,SV.ok];omega) (hok _ _ _ hK7) (aH (ny _ _))
 rintro ⟨⟨b,W,s,k⟩,⟨hW,hwf,hfin⟩,hk7⟩;dsimp only at hW hwf hfin hk7 ⊢;cases b with
 | false=>
  refine SW.seq (SW.seq (SW.g0 [0,2,3,4,5,6,7,17] Zm af ?_));refine SW.au rfl (SW.exit ?_);refine (?_:Sl.SW _ _ _ _ _ _);refine SW.seq (SW.g0 [0,2,3,4,5,6,7,17] Zm af ?_);refine SW.ret ?_;have hfin:s.T=bh l:=hfin;rw [<- hfin];exact End.mk s.T.hp (h3:=iC (h6 s) λ _ _ h=>h) (h4:=⟨rfl,rfl⟩) (h6:=Tr.tB (s.lt (by omega))) (h7:=by simpa using hk7)
 | true=>
  have hfin:(grow (W.length+1) s W).T=bh l:=hfin;have hH:mC (λ s:TS=>s.T.hp) 6 k s s:=⟨rfl,Tr.tB (s.lt (by omega)),h6 s⟩;have cP:=u7 (Im (b:=2) (a:=0) (m:=1) (by omega) (by omega) (by omega) 1000000000) W s (by omega) (by omega) (λ _ _=>trivial) hwf 6 k (by omega) hH (Tr.cl s.sep);have hwf':=B2 W s hwf;have hkl:=pT mH.step W s;have hmore:=C0 (s:=s) (W:=W);have hend:=E4 (s:=s) (W:=W);obtain ⟨W',hW'⟩:∃ W',(bM mH.step s W).1=W':=⟨_,rfl⟩;obtain ⟨s',hs'⟩:∃ s',(bM mH.step s W).2=s':=⟨_,rfl⟩;rw [hW',hs'] at cP hmore hend;rw [hW'] at hkl;rw [hs'] at hwf';have hm:cg (cq ((6,Ob.arr 43 29 W.length (jL W))::s.T.hp) ((6,Ob.arr 43 29 W'.length (jL W'))::s'.T.hp) s.T.hp) s'.T.hp=(6,Ob.arr 43 29 W.length (jL W))::s'.T.hp:=
   sP (by rw [Tr.names,Tr.names,s.e1,s.e2,s.e3,s'.e1,s'.e2,s'.e3]) (ny W s)
  refine SW.seq (SW.seq (SW.g0 [0,2,3,4,5,6,7,17] Zm af ?_));refine SW.aj rfl (SW.skip ?_);refine (?_:Sl.SW _ _ _ _ _ _);refine SW.block (SW.seq (SW.g0 [0,2,3,4,5,6,7,17] Zm af ?_));refine SW.seq ?_
  (refine SW.dL [0,2,3,4,5,6,7,17] Zm ?_;(repeat (first | refine RW.ro hm (h:= ?_) | refine RW.skip (h:= ?_) | refine RW.op hm (h:= ?_) | refine RW.dQ hm (h:= ?_) | refine RW.bF (h:= ?_) | (refine RW.bC (h:= ?_);(first | refine ai.mk (hm) (hs:=(λ _ _ h=>h)) (hc:=cP) (h:= ?_)))));refine RW.nil ⟨by kernel_rfl,an.mk (h:= ?_)⟩)
  have e1:decide ((W'.length:Int)<(W.length:Int))=decide (W'.length<W.length):=by rw [Bool.eq_iff_iff];simp only [decide_eq_true_eq];omega
  refine SW.g0 [0,2,3,4,5,6,7,17] Zm e1 ?_;refine ⟨⟨(decide (W'.length<W.length),W',s',k+(W.length*2+W.length*(2+1))),⟨by show W'.length<=l.length;omega,hwf',?_⟩,by show 7<=k+_;omega⟩,id,?_,aI.same (by simp) (by simp [aL,List.lookup,SV.aA,SV.ok];omega) (hok W' s' _ (by show 7<=k+_;omega)) (aH (ny W' s'))⟩
  .rw [<- hfin]
   by_cases h:W'.length<W.length
   .rw [decide_eq_true h,hmore h];rfl
   .rw [decide_eq_false h,hend h];rfl
  .show 2*W'.length+(if decide (W'.length<W.length)=true then 1 else 0)<2*W.length+(if true=true then 1 else 0)
   by_cases h:W'.length<W.length
   .simp [h] <;> omega
   .simp [h] <;> omega
end
def Tr.sh (T:Tr)(k:Nat):Tr:={ T with bx:=k+T.bx,ma:=k+T.ma,mm:=k+T.mm}
theorem Tr.MP (T:Tr)(k:Nat):T.hp.aA (ff [] k)=(T.sh k).hp:=by
 simp only [Tr.hp,Hp.aA,List.map_cons,List.map_nil,Ob.aA,SV.aQ,SV.aA,dV,bA,Tr.sh,ff,List.getElem?_nil,List.length_nil,Nat.sub_zero,Nat.add_comm]
def jI (l:List ag)(k:Nat):Tr:=(bh l).sh k
theorem KT (l:List ag)(hl:l.length<1000000000)(k:Nat):aJ Tryz.prog tree_New.f [ops l] [] k 7 (.ptr (jI l k).bx 0) (jI l k).hp:=by
 have h:=SB.new (KS l hl) k;rw [Tr.MP] at h;have e:(bh l).bx=2:=(grow ((firsts l).length+1) KP (firsts l)).e1;have e2:(jI l k).bx=k+2:=by show k+(bh l).bx=_;rw [e]
 rw [e2];simp only [SV.aA,ff,List.getElem?_nil,List.length_nil,Nat.sub_zero] at h;rw [Nat.add_comm k 2];exact h
end
section
def lX (o:ag)(c:Cr):Bool:=((!yq o.bp c.bp || ((o.to:Int) == 0)) || decide ((o.depth:Int)>=c.depth)) || decide ((o.cap:Int)>c.cap)
def gC (l:List ag)(g:Cr×Bool)(o:ag):Bool:=(!g.2 || !decide (g.1.aK=o.aK)) || !((aW l o.aM).getD ag.zero).before o
def fQ (l:List ag)(g:Cr×Bool)(o:ag):Cr×Nat:=
 if o.kind≠1 then (Cr.zero,2) else (g.1,if gC l g o then 272 else if g.1.hold≠o.who then 273 else if hasB g.1.bp 1=false then 274 else if lX o g.1 then 275 else 0)
def ej (l:List ag):Nat->Dt->Cr×Bool
 | 0,_=>(Cr.zero,false)
 | m +1,d=>match aW l d with
  | none=>(Cr.zero,false)
  | some o=>if o.kind=0 then (⟨d,d,⟨0,0⟩,o.who,7,8,1099511627776,0⟩,decide (o.aK=d)) else
   if (fQ l (ej l m o.aM) o).2≠0 then (Cr.zero,false) else (⟨d,o.aK,o.aM,o.to,o.bp,o.depth,o.cap,IntKind.i64.wrap ((fQ l (ej l m o.aM) o).1.level+1)⟩,true)
section
attribute [local irreducible] SW RW aJ SC ai an ej
variable {l:List ag} (hlen:l.length<4611686018427387904) (hl:∀ x,x∈l->x.bp<256)
include hlen hl
end
end
section
section
attribute [local irreducible] SW RW aJ SC ai an ej fQ
variable {l:List ag} (hlen:l.length<4611686018427387904) (hl:∀ x,x∈l->x.bp<256)
include hlen hl
end
section
variable {l:List ag} (hlen:l.length<4611686018427387904) (hl:∀ x,x∈l->x.bp<256)
include hlen hl
end
end
end Go.Proofs.YtaelhkkjgfobhaaGreat
