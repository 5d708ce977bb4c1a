/-
 Trees of credentials: what stands below them: orders of dots, what vectors cover, what is found in rows.
-/
import Derived.Test.YtaelhkkjgfobhaaGreatR6
import Derived.Test.YtaelhkkjgfobhaaGreatRV
set_option linter.unusedSectionVars false
set_option linter.unusedVariables false
set_option linter.unusedSimpArgs false
namespace Go.Proofs.YtaelhkkjgfobhaaGreat
open Go.Sl Go.Proofs
section
attribute [local irreducible] SW RW aH SC aj ak
def lV (a b:Int):Int:=if a<b then -1 else if a>b then 1 else 0
theorem Mc (r n:Int):Go.Sl.Pure Tryz.prog dot_May.f [.agg [.d (.int .u8 r),.d (.int .u32 n)]] (bl (decide (r<8) && decide (n>0))):=by
 refine dot_May.enter (by first|rfl|simp[SV.ok,SV.ax]) (by first|rfl|simp[Hp.ok,Ob.ok,SV.ok,SV.ax,ay.ah]) (by simp) ?_;dsimp only[dot_May.s,Co.M,Co.J,Co.H,Co.F,Co.B,Co.b8,Co.aB,Co.T,Co.x,Co.U,Co.D,Co.S];rcases h1:decide (r<8) with _|_
 ·(repeat (first|refine SW.seq ?_|refine SW.block ?_|refine SW.g0 du Zm h1 ?_|refine SW.skip ?_|refine SW.exit ?_|refine SW.ret ?_|refine SW.ai rfl ?_|refine SW.an rfl ?_))
  exact End.mk [] (h4:=⟨rfl,rfl⟩)
 ·(repeat (first|refine SW.seq ?_|refine SW.block ?_|refine SW.g0 du Zm h1 ?_|refine SW.skip ?_|refine SW.exit ?_|refine SW.ret ?_|refine SW.ai rfl ?_|refine SW.an rfl ?_))
  exact End.mk [] (h4:=⟨rfl,rfl⟩)
theorem Jt (r n:Int):Go.Sl.Pure Tryz.prog ref03_May.f [.agg [.d (.int .u8 r),.d (.int .u32 n)]] (bl (decide (r<=7) && decide (n>=1))):=by
 refine ref03_May.enter (by first|rfl|simp[SV.ok,SV.ax]) (by first|rfl|simp[Hp.ok,Ob.ok,SV.ok,SV.ax,ay.ah]) (by simp) ?_;dsimp only[ref03_May.s,Co.M,Co.J,Co.H,Co.F,Co.B,Co.b8,Co.aB,Co.T,Co.x,Co.U,Co.D,Co.S];rcases h1:decide (r<=7) with _|_
 ·(repeat (first|refine SW.seq ?_|refine SW.block ?_|refine SW.g0 du Zm h1 ?_|refine SW.skip ?_|refine SW.exit ?_|refine SW.ret ?_|refine SW.ai rfl ?_|refine SW.an rfl ?_))
  exact End.mk [] (h4:=⟨rfl,rfl⟩)
 ·(repeat (first|refine SW.seq ?_|refine SW.block ?_|refine SW.g0 du Zm h1 ?_|refine SW.skip ?_|refine SW.exit ?_|refine SW.ret ?_|refine SW.ai rfl ?_|refine SW.an rfl ?_))
  exact End.mk [] (h4:=⟨rfl,rfl⟩)
theorem vO (d:Dt)(k:Nat):aH Tryz.prog dot_May.f [.agg d.cells] [] k 0 (bl d.may) []:=by
 have:=(Mc d.r d.n).sc rfl k;have e:d.may=(decide ((d.r:Int)<8) && decide ((d.n:Int)>0)):=by
  unfold Dt.may;rw[Bool.eq_iff_iff];simp only[Bool.and_eq_true,decide_eq_true_eq];omega
 rw[e];exact this
theorem uO (d:Dt)(k:Nat):aH Tryz.prog ref03_May.f [.agg d.cells] [] k 0 (bl d.may) []:=by
 have:=(Jt d.r d.n).sc rfl k;have e:d.may=(decide ((d.r:Int)<=7) && decide ((d.n:Int)>=1)):=by
  unfold Dt.may;rw[Bool.eq_iff_iff];simp only[Bool.and_eq_true,decide_eq_true_eq];omega
 rw[e];exact this
theorem D4 (v:ay)(d:Dt):Go.Sl.Pure Tryz.prog vector_Covers.f [.agg v.cells,.agg d.cells] (bl (v.aU d)):=by
 refine vector_Covers.enter (by first|rfl|simp[SV.ok,SV.ax]) (by first|rfl|simp[Hp.ok,Ob.ok,SV.ok,SV.ax,ay.ah]) (by simp) ?_;dsimp only[vector_Covers.s,Co.M,Co.J,Co.H,Co.F,Co.B,Co.K,Co.P,Co.x,Co.U,Co.S];rcases h:d.may with _|_
 ·(repeat (first|refine SW.seq ?_|refine SW.block ?_|(refine SW.di ci Zm ?_;(repeat (first|refine RW.ro h (h:=?_)|refine RW.skip (h:=?_)|refine RW.op h (h:=?_)|refine RW.dV h (h:=?_)|refine RW.br (h:=?_)|(refine RW.bC (h:=?_);(first|refine aj.mk (h) (hc:=vO _ _) (h:=?_)|refine aj.mk (h) (hc:=uO _ _) (h:=?_)))));refine RW.nil ⟨by kernel_rfl,ak.mk (h:=?_)⟩)|refine SW.skip ?_|refine SW.exit ?_|refine SW.ret ?_|refine SW.ai rfl ?_|refine SW.an rfl ?_))
  have e:v.aU d=false:=by unfold ay.aU;rw[h];rfl
  exact End.mk [] (h4:=⟨by rw[e];rfl,rfl⟩)
 .have hr:d.r<8:=by
   have:=h;simp only[Dt.may,Bool.and_eq_true,decide_eq_true_eq] at this;exact this.1
  have e:v.aU d=decide ((v.get d.r:Int)>=d.n):=by
   unfold ay.aU;rw[h,Bool.true_and,Bool.eq_iff_iff];simp only[decide_eq_true_eq];omega
  (repeat (first|refine SW.seq ?_|refine SW.block ?_|(have fx:=(Zq h (ay.eE v hr));refine SW.di ci Zm ?_;(repeat (first|refine RW.ro fx (h:=?_)|refine RW.skip (h:=?_)|refine RW.op fx (h:=?_)|refine RW.dV fx (h:=?_)|refine RW.br (h:=?_)|(refine RW.bC (h:=?_);(first|refine aj.mk fx (hc:=vO _ _) (h:=?_)|refine aj.mk fx (hc:=uO _ _) (h:=?_)))));refine RW.nil ⟨by kernel_rfl,ak.mk (h:=?_)⟩)|refine SW.skip ?_|refine SW.exit ?_|refine SW.ret ?_|refine SW.ai rfl ?_|refine SW.an rfl ?_));exact End.mk [] (h4:=⟨by rw[e];rfl,rfl⟩)
theorem BT (v:ay)(d:Dt):Go.Sl.Pure Tryz.prog ref04_Covers.f [.agg v.cells,.agg d.cells] (bl (v.aU d)):=by
 refine ref04_Covers.enter (by first|rfl|simp[SV.ok,SV.ax]) (by first|rfl|simp[Hp.ok,Ob.ok,SV.ok,SV.ax,ay.ah]) (by simp) ?_;dsimp only[ref04_Covers.s,Co.M,Co.J,Co.H,Co.F,Co.B,Co.K,Co.P,Co.x,Co.U,Co.S];rcases h:d.may with _|_
 ·(repeat (first|refine SW.seq ?_|refine SW.block ?_|(refine SW.di ci Zm ?_;(repeat (first|refine RW.ro h (h:=?_)|refine RW.skip (h:=?_)|refine RW.op h (h:=?_)|refine RW.dV h (h:=?_)|refine RW.br (h:=?_)|(refine RW.bC (h:=?_);(first|refine aj.mk (h) (hc:=vO _ _) (h:=?_)|refine aj.mk (h) (hc:=uO _ _) (h:=?_)))));refine RW.nil ⟨by kernel_rfl,ak.mk (h:=?_)⟩)|refine SW.skip ?_|refine SW.exit ?_|refine SW.ret ?_|refine SW.ai rfl ?_|refine SW.an rfl ?_))
  have e:v.aU d=false:=by unfold ay.aU;rw[h];rfl
  exact End.mk [] (h4:=⟨by rw[e];rfl,rfl⟩)
 .have hr:d.r<8:=by
   have:=h;simp only[Dt.may,Bool.and_eq_true,decide_eq_true_eq] at this;exact this.1
  have e:v.aU d=decide ((d.n:Int)<=v.get d.r):=by
   unfold ay.aU;rw[h,Bool.true_and,Bool.eq_iff_iff];simp only[decide_eq_true_eq];omega
  (repeat (first|refine SW.seq ?_|refine SW.block ?_|(have fx:=(Zq h (ay.eE v hr));refine SW.di ci Zm ?_;(repeat (first|refine RW.ro fx (h:=?_)|refine RW.skip (h:=?_)|refine RW.op fx (h:=?_)|refine RW.dV fx (h:=?_)|refine RW.br (h:=?_)|(refine RW.bC (h:=?_);(first|refine aj.mk fx (hc:=vO _ _) (h:=?_)|refine aj.mk fx (hc:=uO _ _) (h:=?_)))));refine RW.nil ⟨by kernel_rfl,ak.mk (h:=?_)⟩)|refine SW.skip ?_|refine SW.exit ?_|refine SW.ret ?_|refine SW.ai rfl ?_|refine SW.an rfl ?_));exact End.mk [] (h4:=⟨by rw[e];rfl,rfl⟩)
theorem yb (v:ay)(d:Dt)(k:Nat):aH Tryz.prog vector_Covers.f [.agg v.cells,.agg d.cells] [] k 0 (bl (v.aU d)) []:=(D4 v d).sc rfl k
theorem vP (v:ay)(d:Dt)(k:Nat):aH Tryz.prog ref04_Covers.f [.agg v.cells,.agg d.cells] [] k 0 (bl (v.aU d)) []:=(BT v d).sc rfl k
theorem D5 (a b:ag):Go.Sl.Pure Tryz.prog order_Before.f [.agg a.cells,.agg b.cells] (bl (a.before b)):=by
 refine order_Before.enter (by first|rfl|simp[SV.ok,SV.ax]) (by first|rfl|simp[Hp.ok,Ob.ok,SV.ok,SV.ax,ay.ah]) (by simp) ?_;dsimp only[order_Before.s,Co.M,Co.J,Co.F,Co.B,Co.K,Co.Q,Co.x,Co.D,Co.S];(repeat (first|refine SW.seq ?_|refine SW.block ?_|(refine SW.di ci Zm ?_;(repeat (first|refine RW.ro aa (h:=?_)|refine RW.skip (h:=?_)|refine RW.op aa (h:=?_)|refine RW.dV aa (h:=?_)|refine RW.br (h:=?_)|(refine RW.bC (h:=?_);(first|refine aj.mk aa (hc:=yb _ _ _) (h:=?_)|refine aj.mk aa (hc:=vP _ _ _) (h:=?_)))));refine RW.nil ⟨by kernel_rfl,ak.mk (h:=?_)⟩)|refine SW.skip ?_|refine SW.exit ?_|refine SW.ret ?_|refine SW.ai rfl ?_|refine SW.an rfl ?_));exact End.mk [] (h4:=⟨rfl,rfl⟩)
theorem BU (a b:ag):Go.Sl.Pure Tryz.prog ref10_Before.f [.agg a.cells,.agg b.cells] (bl (a.before b)):=by
 refine ref10_Before.enter (by first|rfl|simp[SV.ok,SV.ax]) (by first|rfl|simp[Hp.ok,Ob.ok,SV.ok,SV.ax,ay.ah]) (by simp) ?_;dsimp only[ref10_Before.s,Co.M,Co.J,Co.F,Co.B,Co.K,Co.Q,Co.x,Co.D,Co.S];(repeat (first|refine SW.seq ?_|refine SW.block ?_|(refine SW.di ci Zm ?_;(repeat (first|refine RW.ro aa (h:=?_)|refine RW.skip (h:=?_)|refine RW.op aa (h:=?_)|refine RW.dV aa (h:=?_)|refine RW.br (h:=?_)|(refine RW.bC (h:=?_);(first|refine aj.mk aa (hc:=yb _ _ _) (h:=?_)|refine aj.mk aa (hc:=vP _ _ _) (h:=?_)))));refine RW.nil ⟨by kernel_rfl,ak.mk (h:=?_)⟩)|refine SW.skip ?_|refine SW.exit ?_|refine SW.ret ?_|refine SW.ai rfl ?_|refine SW.an rfl ?_));exact End.mk [] (h4:=⟨rfl,rfl⟩)
theorem kO (a b:ag)(k:Nat):aH Tryz.prog order_Before.f [.agg a.cells,.agg b.cells] [] k 0 (bl (a.before b)) []:=(D5 a b).sc rfl k
theorem vQ (a b:ag)(k:Nat):aH Tryz.prog ref10_Before.f [.agg a.cells,.agg b.cells] [] k 0 (bl (a.before b)) []:=(BU a b).sc rfl k
end
section
section
attribute [local irreducible] SW RW aH SC aj ak
theorem Ax:∀ (x y a b:SV),b_ (b_ [x,y] 0 [a]) 1 [b]=[a,b]:=λ _ _ _ _=>rfl
theorem Ju (l m:List Dt)(hl:l.length<4611686018427387904)(hm:m.length<4611686018427387904):Go.Sl.Pure Tryz.prog ref03_Same.f [bN l,bN m] (bl (decide (l=m))):=by
 refine ref03_Same.enter (by first|rfl|simp[SV.ok,SV.ax]) (by first|rfl|simp[Hp.ok,Ob.ok,SV.ok,SV.ax,ay.ah]) (by simp) ?_;dsimp only[ref03_Same.s,Co.M,Co.J,Co.F,Co.Z,Co.B,Co.K,Co.L,Co.Y,Co.V,Co.I,Co.S]
 by_cases hn:l.length=m.length
 .have h0:(((l.length:Nat):Int) != ((m.length:Nat):Int))=false:=by simp;omega
  (repeat (first|refine SW.seq ?_|refine SW.block ?_|refine SW.g0 fX Zm h0 ?_|refine SW.skip ?_|refine SW.exit ?_|refine SW.ret ?_|refine SW.ai rfl ?_|refine SW.an rfl ?_));refine SW.j6 (α:={i:Nat // i<=l.length/\∀ j,j<i->l[j]? =m[j]?}) (λ i=>⟨[(5,i64 i.1),(0,bN l),(1,bN m)],[],0⟩) (λ i=>l.length - i.1) ⟨0,by omega,by omega⟩ id aa (round:= ?_);rintro⟨i,hi,hs⟩
  by_cases h:i<l.length
  .have h1:decide ((i:Int)<l.length)=true:=by simp only[decide_eq_true_eq];omega
   obtain⟨x,hx⟩:=aX h;obtain⟨y,hy⟩:=aX (show i<m.length by omega);have e2:IntKind.i64.wrap ((i:Int)+1)=((i+1:Nat):Int):=wrap_i64 _ (by omega)
   by_cases he:x=y
   .have e3:decide (x=y)=true:=by simp[he]
    (repeat (first|refine SW.seq ?_|refine SW.block ?_|refine SW.g0 fX Zm (Zq h1 (Zq (jI hx) (Zq (jI hy) (Zq e2 e3)))) ?_|refine SW.skip ?_|refine SW.exit ?_|refine SW.ret ?_|refine SW.ai rfl ?_|refine SW.an rfl ?_));refine Next.mk ⟨i+1,by omega,λ j hj=> ?_⟩ id aa
    by_cases e:j=i
    .rw[e,hx,hy,he]
    .exact hs j (by omega)
   .have e3:decide (x=y)=false:=by simp[he]
    (repeat (first|refine SW.seq ?_|refine SW.block ?_|refine SW.g0 fX Zm (Zq h1 (Zq (jI hx) (Zq (jI hy) (Zq e2 e3)))) ?_|refine SW.skip ?_|refine SW.exit ?_|refine SW.ret ?_|refine SW.ai rfl ?_|refine SW.an rfl ?_));have:l≠m:=λ e=>by rw[e,hy] at hx;injection hx with hx;exact he hx.symm
    exact End.mk [] (h4:=⟨by simp[fB,this],rfl⟩)
  .have h1:decide ((i:Int)<l.length)=false:=by simp only[decide_eq_false_iff_not];omega
   (repeat (first|refine SW.seq ?_|refine SW.block ?_|refine SW.g0 fX Zm h1 ?_|refine SW.skip ?_|refine SW.exit ?_|refine SW.ret ?_|refine SW.ai rfl ?_|refine SW.an rfl ?_));have:l=m:=FN hn λ j hj=>hs j (by omega)
   exact End.mk [] (h4:=⟨by simp[fB,this],rfl⟩)
 .have h0:(((l.length:Nat):Int) != ((m.length:Nat):Int))=true:=by simp;omega
  (repeat (first|refine SW.seq ?_|refine SW.block ?_|refine SW.g0 fX Zm h0 ?_|refine SW.skip ?_|refine SW.exit ?_|refine SW.ret ?_|refine SW.ai rfl ?_|refine SW.an rfl ?_));have:l≠m:=λ e=>hn (by rw[e])
  exact End.mk [] (h4:=⟨by simp[fB,this],rfl⟩)
theorem C_ (l m:List Dt)(hl:l.length<4611686018427387904)(hm:m.length<4611686018427387904)(k:Nat):aH Tryz.prog ref03_Same.f [bN l,bN m] [] k 0 (bl (decide (l=m))) []:=(Ju l m hl hm).sc rfl k
theorem p_ {l:List ag}{i:Nat}{x:ag}(h:l[i]? =some x):List.take 2 (List.drop (i*29) (List.map SV.d (l.flatMap ag.ds)))=x.dot.cells:=by
 have:=CW h (j:=0) (n:=2) (by omega);rw[Nat.add_zero,List.drop_zero] at this;rw[this];rfl
theorem mW {l:List ag}{i:Nat}{x:ag}(h:l[i]? =some x):(i*29+2<=(List.map SV.d (l.flatMap ag.ds)).length)=True:=eq_true (by
 have:=cU h;rw[List.length_map,fV];omega)
end
end
section
section
attribute [local irreducible] SW RW aH SC aj ak
def y7 (o:ag):Nat:=match o.lines with
 | .sl n _=>n
 | _=>0
def Oc (o:ag):Prop:=∃ n cs,o.lines= .sl n cs/\n<=9223372036854775807
def f_ (l:List ag):Nat->Int
 | 0=>0
 | i+1=>IntKind.i64.wrap (f_ l i+((l[i]?).map y7).getD 0)
def jk (l:List ag):Bool:=decide (l.length>80) || decide (f_ l (min l.length 100)>300)
theorem F5 {l:List ag}{i:Nat}{x:ag}(h:l[i]? =some x):(List.map SV.d (l.flatMap ag.ds))[i*29+28]? =some (.d x.lines):=by rw[vB h (by omega)];rfl
theorem F6 (l:List ag)(hl:∀ x,x∈l->Oc x)(hlen:l.length<=9223372036854775807):Go.Sl.Pure Tryz.prog ref10_Great.f [ops l] (bl (jk l)):=by
 refine ref10_Great.enter (by first|rfl|simp[SV.ok,SV.ax]) (by first|rfl|simp[Hp.ok,Ob.ok,SV.ok,SV.ax,ay.ah]) (by simp) ?_;dsimp only[ref10_Great.s,Co.M,Co.G,Co.J,Co.H,Co.F,Co.Z,Co.B,Co.T,Co.L,Co.Y,Co.V,Co.U,Co.D,Co.I,Co.S];(repeat (first|refine SW.seq ?_|refine SW.block ?_|refine SW.g0 il Zm aa ?_|refine SW.skip ?_|refine SW.exit ?_|refine SW.ret ?_|refine SW.ai rfl ?_|refine SW.an rfl ?_));refine SW.j6 (α:={i:Nat // i<=l.length/\i<=100}) (λ i=>⟨[(4,i64 i.1),(0,ops l),(3,i64 (f_ l i.1))],[],0⟩) (λ i=>100 - i.1) ⟨0,by omega,by omega⟩ id (show f_ l 0=0 from rfl) (round:= ?_);rintro⟨i,hi,hi2⟩
 by_cases h:i<l.length
 .have h1:decide ((i:Int)<l.length)=true:=by simp only[decide_eq_true_eq];omega
  by_cases h2:i<100
  .have h3:decide ((i:Int)<100)=true:=by simp only[decide_eq_true_eq];omega
   obtain⟨x,hx⟩:=aX h;obtain⟨n,cs,hx1,hx2⟩:=hl x (List.mem_of_getElem? hx);have e2:IntKind.i64.wrap ((i:Int)+1)=((i+1:Nat):Int):=wrap_i64 _ (by omega);have e3:IntKind.i64.wrap (f_ l i+(n:Int))=f_ l (i+1):=by simp[f_,hx,y7,hx1]
   (repeat (first|refine SW.seq ?_|refine SW.block ?_|refine SW.g0 il Zm (Zq h1 (Zq h3 (Zq (F5 hx) (Zq hx1 (Zq e2 e3))))) ?_|refine SW.skip ?_|refine SW.exit ?_|refine SW.ret ?_|refine SW.ai rfl ?_|refine SW.an rfl ?_));exact Next.mk ⟨i+1,by omega,by omega⟩ id aa
  .have h3:decide ((i:Int)<100)=false:=by simp only[decide_eq_false_iff_not];omega
   have h4:decide ((l.length:Int)>80)=true:=by simp only[decide_eq_true_eq];omega
   (repeat (first|refine SW.seq ?_|refine SW.block ?_|refine SW.g0 il Zm (Zq h1 (Zq h3 h4)) ?_|refine SW.skip ?_|refine SW.exit ?_|refine SW.ret ?_|refine SW.ai rfl ?_|refine SW.an rfl ?_));have:jk l=true:=by unfold jk;rw[show decide (l.length>80)=true by simp;omega];rfl
   exact End.mk [] (h4:=⟨by rw[this];rfl,rfl⟩)
 .have h1:decide ((i:Int)<l.length)=false:=by simp only[decide_eq_false_iff_not];omega
  have e:min l.length 100=i:=by omega
  rcases h4:decide ((l.length:Int)>80) with _|_
  ·(repeat (first|refine SW.seq ?_|refine SW.block ?_|refine SW.g0 il Zm (Zq h1 h4) ?_|refine SW.skip ?_|refine SW.exit ?_|refine SW.ret ?_|refine SW.ai rfl ?_|refine SW.an rfl ?_))
   have:jk l=decide (f_ l i>300):=by
    unfold jk;rw[e,show decide (l.length>80)=false by simp at h4 ⊢;omega];rfl
   exact End.mk [] (h4:=⟨by rw[this];rfl,rfl⟩)
  ·(repeat (first|refine SW.seq ?_|refine SW.block ?_|refine SW.g0 il Zm (Zq h1 h4) ?_|refine SW.skip ?_|refine SW.exit ?_|refine SW.ret ?_|refine SW.ai rfl ?_|refine SW.an rfl ?_))
   have:jk l=true:=by unfold jk;rw[show decide (l.length>80)=true by simp at h4 ⊢;omega];rfl
   exact End.mk [] (h4:=⟨by rw[this];rfl,rfl⟩)
theorem Ay (l:List ag)(hl:∀ x,x∈l->Oc x)(hlen:l.length<=9223372036854775807)(k:Nat):aH Tryz.prog ref10_Great.f [ops l] [] k 0 (bl (jk l)) []:=(F6 l hl hlen).sc rfl k
theorem s_ {l:List ag}(h:jk l=false):l.length<=80:=by
 unfold jk at h;simp only[Bool.or_eq_false_iff,decide_eq_false_iff_not] at h;omega
def hasB (r b:Nat):Bool:=decide (r / b % 2=1)
def lJ (r o:Nat):Nat->Bool
 | 0=>true
 | i+1=>lJ r o i && (!hasB r (2 ^ i) || hasB o (2 ^ i))
def y8 (r o:Nat):Bool:=decide (r≠0) && lJ r o 8
theorem F7 (l:List ag)(hl:l.length<1000000000)(k:Nat):SB Tryz.prog slices_Clone_Lapi_Op_api_Op.f [ops l] [] k 2 (λ r F'=>r= .gs (k+1) l.length/\F'=[(k+1,.arr 43 29 l.length (jT l))]):=by
 refine slices_Clone_Lapi_Op_api_Op.enter (by first|rfl|simp[SV.ok,SV.ax]) (by first|rfl|simp[Hp.ok,Ob.ok,SV.ok,SV.ax,ay.ah]) (by simp) ?_;dsimp only[slices_Clone_Lapi_Op_api_Op.s,Co.M,Co.J,Co.F,Co.S];refine SW.seq (SW.g0 dE Zm aa ?_);refine SW.seq (SW.seq (SW.N9 (n:=l.length) (cs:=l.flatMap ag.ds) rfl ?_ λ h0=> ?_))
 .refine SW.an rfl (SW.skip ?_)
  refine(?_:Sl.SW _ _ _ _ _ _);refine SW.seq ?_;have f1:=bX (show k≠k+1 by omega);refine SW.g0 dE Zm f1 ?_;refine SW.ret ?_;exact End.mk [(k+1,.arr 43 29 l.length (jT l))] (h3:=HSub.cons (by simp[af]) (HSub.nil _)) (h4:=⟨rfl,rfl⟩) (h5:=by simp[fB,SV.ok]) (h6:=by simp[Hp.ok,Ob.ok,SV.aW])
 .have hl0:l=[]:=List.eq_nil_of_length_eq_zero h0
  subst hl0;refine SW.ai rfl (SW.seq (SW.g0 dE Zm aa ?_));refine SW.qK 2 43 29 rfl ?_;refine SW.weak (λ n=>if n=k+1 then k else n) (st1:=⟨[(2,.gs (k+1) 0)],[(k+1,.arr 43 29 0 [])],k+2⟩) ?_ ?_
  .refine⟨by simp,λ n hn=>by simp;omega,?_,?_,?_⟩
   .simp[aJ,List.lookup,SV.aC,SV.ok]
   .simp[sV,Ob.aC,Ob.ok,SV.aN,SV.ax,lk,List.lookup]
   .simp[FF]
  refine SW.ret ?_;exact End.mk [(k+1,.arr 43 29 0 [])] (h3:=λ _ _ h=>h) (h4:=⟨rfl,rfl⟩) (h5:=by simp[fB,SV.ok]) (h6:=by simp[Hp.ok,Ob.ok,SV.ax])
theorem F8 (l:List ag)(hl:l.length<1000000000)(k:Nat):aH Tryz.prog slices_Clone_Lapi_Op_api_Op.f [ops l] [] k 2 (.gs (k+1) l.length) [(k+1,.arr 43 29 l.length (jT l))]:=by
 unfold aH;refine(F7 l hl k).here (λ _=>false) (λ n h=>by cases h) rfl rfl ?_;rintro x F ⟨rfl,rfl⟩ _ _;simp[SV.ok,Hp.ok,Ob.ok,SV.aW]
end
end
section
section
variable {σ:Type}
def gh (step:σ->ag->σ×Bool):σ->List ag->Option Nat×σ
 | s,[]=>(none,s)
 | s,x::l=>if (step s x).2 then (some 0,(step s x).1) else ((gh step (step s x).1 l).1.map (· +1),(gh step (step s x).1 l).2)
def bK (step:σ->ag->σ×Bool):σ->List ag->List ag×σ
 | s,[]=>([],s)
 | s,x::l=>(if (step s x).2 then (bK step (step s x).1 l).1 else x::(bK step (step s x).1 l).1,(bK step (step s x).1 l).2)
theorem qa (step:σ->ag->σ×Bool):∀ (l:List ag) (s:σ),(bK step s l).1.length<=l.length
 | [],s=>Nat.le_refl _
 | x::l,s=>by
  have:=qa step l (step s x).1;simp only[bK]
  split<;>simp<;>omega
theorem lp {step:σ->ag->σ×Bool}:∀ {l:List ag} {s:σ},(gh step s l).1=none->bK step s l=(l,(gh step s l).2)
 | [],s,_=>rfl
 | x ::l,s,h=>by
  simp only[gh] at h ⊢
  by_cases e:(step s x).2=true
  .rw[if_pos e] at h;cases h
  .rw[if_neg e] at h ⊢
   have h2:(gh step (step s x).1 l).1=none:=by
    cases hh:(gh step (step s x).1 l).1 with
    | none=>rfl
    | some i=>rw[hh] at h;cases h
   simp only[bK];rw[lp h2,if_neg e]
theorem Az {step:σ->ag->σ×Bool}:∀ {l:List ag} {s:σ} {i:Nat},(gh step s l).1=some i->i<l.length/\bK step s l=(l.take i++(bK step (gh step s l).2 (l.drop (i+1))).1,(bK step (gh step s l).2 (l.drop (i+1))).2)
 | [],s,i,h=>by cases h
 | x ::l,s,i,h=>by
  simp only[gh] at h ⊢
  by_cases e:(step s x).2=true
  .rw[if_pos e] at h ⊢
   injection h with h;subst h;simp[bK,e]
  .rw[if_neg e] at h ⊢
   cases hh:(gh step (step s x).1 l).1 with
   | none=>rw[hh] at h;cases h
   | some j=>
    rw[hh] at h;injection h with h;dsimp only at h;subst h;obtain⟨h1,h2⟩:=Az hh;refine⟨by simp;omega,?_⟩;simp only[bK];rw[h2,if_neg e];simp
structure yc (P:Program)(g:Nat)(first cap:List SV)(Fh:σ->Hp)(step:σ->ag->σ×Bool)(aV:Nat)(I:Nat->σ->Prop)(G:ag->Prop)(B:Nat):Prop where
 nd:∀ s,((Fh s).map (·.1)).Nodup
 nm:∀ s x,(Fh (step s x).1).map (·.1)=(Fh s).map (·.1)
 nx:∀ i s x,I i s->G x->i<B->I (i+1) (step s x).1
 ok:∀ s x q,(Fh s).ok q=true->(Fh (step s x).1).ok q=true
 call:∀ i s x k,I i s->G x->i<B->(Fh s).ok (λ n=>decide (n<k))=true->aH P g (first++[.agg x.cells]++cap) (Fh s) k aV (bl (step s x).2) (Fh (step s x).1)
 a1:∀ s q,(Fh s).ok q=true->SV.ax q first=true/\SV.ax q cap=true
end
section
attribute [local irreducible] SW RW aH SC aj ak
variable {σ:Type} {g:Nat} {first cap:List SV} {Fh:σ->Hp} {step:σ->ag->σ×Bool} {aV:Nat} {I:Nat->σ->Prop} {G:ag->Prop} {B:Nat}
def AA (o:Option Nat):SV:=match o with
 | some i=>i64 i
 | none=>i64 (-1)
structure mD (Fh:σ->Hp)(n k:Nat)(s0 s:σ):Prop where
 nm:(Fh s).map (·.1)=(Fh s0).map (·.1)
 ok:(Fh s).ok (λ n=>decide (n<k))=true
 no:lk (Fh s) n=none
theorem mD.mono {n k k':Nat}{s0 s:σ}(h:mD Fh n k s0 s)(hk:k<=k'):mD Fh n k' s0 s:=⟨h.nm,Hp.bJ hk h.ok,h.no⟩
theorem mD.next (hd:yc Tryz.prog g first cap Fh step aV I G B){n k:Nat}{s0 s:σ}(h:mD Fh n k s0 s)(x:ag):mD Fh n k s0 (step s x).1:=
 ⟨(hd.nm s x).trans h.nm,hd.ok s x _ h.ok,jM (by rw[hd.nm s x];exact eN h.no)⟩
theorem mD.tc {n k:Nat}{s0 s:σ}(h:mD Fh n k s0 s)(hn:n<k){e sz len:Nat}(ds:List DV):Hp.ok (λ n=>decide (n<k)) ((n,.arr e sz len (ds.map SV.d))::Fh s)=true:=aA (by simpa using hn) (SV.aW _) h.ok
theorem mD.nd (hd:yc Tryz.prog g first cap Fh step aV I G B){n k:Nat}{s0 s:σ}(h:mD Fh n k s0 s)(o:Ob):(((n,o)::Fh s:Hp).map (·.1)).Nodup:=rU h.no (hd.nd s)
variable (hd:yc Tryz.prog g first cap Fh step aV I G B)
include hd in
set_option maxHeartbeats 1000000 in
theorem D6 (l:List ag)(s0:σ)(hl:l.length<1000000000)(hB:l.length<=B)(hG:∀ x,x∈l->G x)(hI:I 0 s0)(n k:Nat)(hn:n<k)(h0:mD Fh n k s0 s0):
  SB Tryz.prog slices_IndexFunc_Lapi_Op_api_Op.f [.gs n l.length,.fn (.func g) first cap] ((n,.arr 43 29 l.length (jT l))::Fh s0) k (l.length*aV)
   (λ r F'=>r=AA (gh step s0 l).1/\F'=(n,.arr 43 29 l.length (jT l))::Fh (gh step s0 l).2):=by
 obtain⟨o1,o2⟩:=hd.a1 s0 _ h0.ok;refine slices_IndexFunc_Lapi_Op_api_Op.enter (by simp[SV.ok,SV.ax,o1,o2,hn]) (h0.tc hn _) (by simp) ?_;dsimp only[slices_IndexFunc_Lapi_Op_api_Op.s,Co.M,Co.J,Co.F,Co.Z,Co.K,Co.L,Co.Y,Co.V,Co.I,Co.S];refine SW.seq (SW.g0 cJ Zm aa ?_);refine SW.seq (SW.seq (SW.g0 cJ Zm aa ?_));refine SW.block ?_
 refine SW.loop (α:={x:Nat×σ // x.1<=l.length/\I x.1 x.2/\mD Fh n (k+x.1*aV) s0 x.2/\gh step s0 l=((gh step x.2 (l.drop x.1)).1.map (· +x.1),(gh step x.2 (l.drop x.1)).2)})
  (λ x=>⟨[(8,i64 x.1.1),(7,i64 l.length),(0,.gs n l.length),(1,.fn (.func g) first cap)],(n,.arr 43 29 l.length (jT l))::Fh x.1.2,k+x.1.1*aV⟩) (λ x=>l.length - x.1.1)
  ⟨(0,s0),by omega,hI,by simpa using h0,by simp⟩ id ?_ ?_
 .exact aG.same (by simp) (by simp[aJ,List.lookup,SV.aC,SV.bS,SV.ok,o1,o2,hn]) (by simpa using h0.tc hn _) (aI (h0.nd hd _))
 rintro⟨⟨i,s⟩,hi,hIs,hh,he⟩;dsimp only at hi hIs hh he ⊢;have hkk:k<=k+i*aV:=by omega
 by_cases h:i<l.length
 .have h1:decide ((i:Int)<l.length)=true:=by simp only[decide_eq_true_eq];omega
  obtain⟨x,hx⟩:=aX h;have hdr:l.drop i=x::l.drop (i+1):=by
   rw[List.drop_eq_getElem_cons h];rw[List.getElem?_eq_getElem h] at hx;injection hx with hx;rw[hx]
  have e2:IntKind.i64.wrap ((i:Int)+1)=((i+1:Nat):Int):=wrap_i64 _ (by omega);have hc:=hd.call i s x (k+i*aV) hIs (hG x (List.mem_of_getElem? hx)) (by omega) hh.ok;have hs:HSub (Fh s) ((n,.arr 43 29 l.length (jT l))::Fh s):=lI hh.no λ _ _ h=>h
  have hm:de (dg ((n,Ob.arr 43 29 l.length (jT l))::Fh s) (Fh (step s x).1) (Fh s)) (Fh (step s x).1)=(n,.arr 43 29 l.length (jT l))::Fh (step s x).1:=
   o9 (pre:=[(n,.arr 43 29 l.length (jT l))]) (hd.nm s x).symm (hh.nd hd _)
  have hh2:=(hh.next hd x).mono (k':=k+i*aV+aV) (by omega);have hk2:k+i*aV+aV=k+(i+1)*aV:=by rw[Nat.succ_mul];omega
  rw[hdr] at he;simp only[gh] at he;refine SW.seq (SW.g0 cJ Zm h1 ?_);refine SW.seq (SW.ai rfl (SW.skip ?_));refine(?_:Sl.SW _ _ _ _ _ _);refine SW.seq (SW.block (SW.seq (SW.g0 cJ Zm aa ?_)));refine SW.seq ?_;rcases hb:(step s x).2 with _|_
  .rw[hb] at hc
   refine SW.g1 cJ Zm (Zq (gW hx) (Zq (cF hx) (hm))) (Zq hs hc) ?_;refine SW.an rfl (SW.skip (SW.g0 cJ Zm e2 ?_));rw[if_neg (by rw[hb];simp)] at he;have hh3:mD Fh n (k+(i+1)*aV) s0 (step s x).1:=by rw[<- hk2];exact hh2
   refine⟨⟨(i+1,(step s x).1),by dsimp only;omega,hd.nx i s x hIs (hG x (List.mem_of_getElem? hx)) (by omega),hh3,?_⟩,id,by simp;omega,?_⟩
   .rw[he]
    simp only[Option.map_map]
    congr 2
    funext j
    simp only[Function.comp];omega
   .exact aG.same (by simp) (by simp[aJ,List.lookup,SV.aC,SV.bS,SV.ok];exact⟨by omega,(hd.a1 s0 _ (Hp.bJ (by omega) h0.ok)).1,(hd.a1 s0 _ (Hp.bJ (by omega) h0.ok)).2⟩) (hh3.tc (by omega) _) (aI (hh3.nd hd _))
  .rw[hb] at hc
   refine SW.g1 cJ Zm (Zq (gW hx) (Zq (cF hx) (hm))) (Zq hs hc) ?_;refine SW.ai rfl (SW.seq ?_);have:k+i*aV+aV<=k+l.length*aV:=by
    have:=Nat.mul_le_mul_right aV (show i+1<=l.length by omega);omega
   refine SW.weak id (st1:=⟨[(5,i64 i)],(n,.arr 43 29 l.length (jT l))::Fh (step s x).1,k+l.length*aV⟩) (aG.same (by simp) (by simp[aJ,List.lookup,SV.aC,SV.ok]) ((hh2.mono this).tc (by omega) _) (aI (hh2.nd hd _))) ?_;refine SW.g0 cJ Zm aa ?_;rw[if_pos (by rw[hb])] at he;refine SW.ret ?_;rw[he];exact End.mk ((n,.arr 43 29 l.length (jT l))::Fh (step s x).1) (h3:=λ _ _ h=>h) (h4:=⟨by simp[fB,AA],rfl⟩) (h6:=(hh2.mono this).tc (by omega) _)
 .have h1:decide ((i:Int)<l.length)=false:=by simp only[decide_eq_false_iff_not];omega
  have e:i=l.length:=by omega
  subst e;rw[List.drop_length] at he;refine SW.seq (SW.g0 cJ Zm h1 ?_);refine SW.seq (SW.an rfl (SW.exit ?_));refine(?_:Sl.SW _ _ _ _ _ _);refine SW.seq (SW.g0 cJ Zm aa ?_);refine SW.ret ?_;rw[he];exact End.mk ((n,.arr 43 29 l.length (jT l))::Fh s) (h3:=λ _ _ h=>h) (h4:=⟨rfl,rfl⟩) (h6:=(hh.mono (by omega)).tc (by omega) _)
include hd in
theorem y9 {q:Nat->Bool}:∀ (l:List ag) (s:σ),(Fh s).ok q=true->(Fh (gh step s l).2).ok q=true
 | [],s,h=>h
 | x::l,s,h=>by
  simp only[gh]
  split
  .exact hd.ok s x q h
  .exact y9 l _ (hd.ok s x q h)
include hd in
theorem AB {q:Nat->Bool}:∀ (l:List ag) (s:σ),(Fh s).ok q=true->(Fh (bK step s l).2).ok q=true
 | [],s,h=>h
 | x::l,s,h=>AB l _ (hd.ok s x q h)
include hd in
theorem uP:∀ (l:List ag) (s:σ),(Fh (gh step s l).2).map (·.1)=(Fh s).map (·.1)
 | [],s=>rfl
 | x::l,s=>by
  simp only[gh]
  split
  .exact hd.nm s x
  .exact(uP l _).trans (hd.nm s x)
include hd in
theorem F9:∀ (l:List ag) (s:σ) (i:Nat),(∀ x,x∈l->G x)->i+l.length<=B->I i s->∀ j,(gh step s l).1=some j->I (i+j+1) (gh step s l).2
 | [],s,i,_,_,_,j,h=>by cases h
 | x ::l,s,i,hG,hB,hi,j,h=>by
  simp only[List.length_cons] at hB;simp only[gh] at h ⊢
  by_cases e:(step s x).2=true
  .rw[if_pos e] at h ⊢
   injection h with h;subst h;exact hd.nx i s x hi (hG x (by simp)) (by omega)
  .rw[if_neg e] at h ⊢
   cases hh:(gh step (step s x).1 l).1 with
   | none=>rw[hh] at h;cases h
   | some q=>
    rw[hh] at h;injection h with h;dsimp only at h;subst h;have:=F9 l (step s x).1 (i+1) (λ y hy=>hG y (List.mem_cons_of_mem _ hy)) (by omega) (hd.nx i s x hi (hG x (by simp)) (by omega)) q hh
    rwa [show i+(q+1)+1=i+1+q+1 by omega]
theorem y_ {n:Nat}{s:σ}{o:Ob}(ho:∀ q,o.ok q=true)(mz:(Fh s).ok (λ m=>(lk (Fh s) m).isSome)=true)(hno:lk (Fh s) n=none):Hp.ok (λ m=>(lk ((n,o)::Fh s) m).isSome) ((n,o)::Fh s)=true:=by
 refine aA (by simp[af]) (ho _) (Hp.eA (λ m hm=> ?_) mz);rw[af]
 split
 .rfl
 .exact hm
include hd in
theorem D7 (l:List ag)(s0:σ)(hl:l.length<1000000000)(hB:l.length<=B)(hG:∀ x,x∈l->G x)(hI:I 0 s0)(n k:Nat)(hn:n<k)(h0:mD Fh n k s0 s0)(mz:(Fh s0).ok (λ m=>(lk (Fh s0) m).isSome)=true):
  aH Tryz.prog slices_IndexFunc_Lapi_Op_api_Op.f [.gs n l.length,.fn (.func g) first cap] ((n,.arr 43 29 l.length (jT l))::Fh s0) k (l.length*aV) (AA (gh step s0 l).1) ((n,.arr 43 29 l.length (jT l))::Fh (gh step s0 l).2):=by
 unfold aH;have hq:=y_ (n:=n) (o:= .arr 43 29 l.length (jT l)) (λ q=>SV.aW _) mz h0.no;have hq0:(Fh s0).ok (λ m=>(lk ((n,Ob.arr 43 29 l.length (jT l))::Fh s0) m).isSome)=true:=by
  simp only[Hp.ok,List.all_cons,Bool.and_eq_true] at hq ⊢;exact hq.2
 obtain⟨o1,o2⟩:=hd.a1 s0 _ hq0;refine(D6 hd l s0 hl hB hG hI n k hn h0).here (λ m=>(lk ((n,Ob.arr 43 29 l.length (jT l))::Fh s0) m).isSome) (λ m h e=>by rw[e] at h;cases h) (by simp only[SV.ax,SV.ok,o1,o2,Bool.and_true];simp[af]) hq ?_;rintro x F ⟨rfl,rfl⟩ _ _;refine⟨by unfold AA;split<;>rfl,?_⟩;have:=y9 hd l s0 hq0;exact aA (by simp[af]) (SV.aW _) (Hp.eA (λ m hm=>by rw[hm];rfl) this)
end
end
section
theorem AD {α:Type}{l:List α}{w:Nat}{x:α}(h:w<l.length):(l.set w x).take (w+1)=l.take w++[x]:=by
 rw[dY (x:=x) (by simp[h]),List.take_set_of_le (Nat.le_refl _)]
theorem set_drop {α:Type}{l:List α}{w j:Nat}{x:α}(h:w<j):(l.set w x).drop j=l.drop j:=by
 rw[List.drop_set_of_lt h]
theorem drop_cons {α:Type}{l:List α}{i:Nat}{x:α}(hx:l[i]? =some x):l.drop i=x::l.drop (i+1):=by
 have h:=cU hx;rw[List.drop_eq_getElem_cons h];rw[List.getElem?_eq_getElem h] at hx;injection hx with hx;rw[hx]
theorem AE {α:Type}{l m:List α}{j:Nat}{x:α}(h:l.drop j=m.drop j)(hx:m[j]? =some x):l[j]? =some x:=by
 have h1:(l.drop j)[0]? =l[j]? :=by simp
 have h2:(m.drop j)[0]? =m[j]? :=by simp
 rw[<- h1,h,h2];exact hx
theorem yd {α:Type}{l m:List α}{j:Nat}(h:l.drop j=m.drop j):l.drop (j+1)=m.drop (j+1):=by
 have:∀ q:List α,q.drop (j+1)=(q.drop j).drop 1:=λ q=>by rw[List.drop_drop]
 rw[this,this,h]
theorem F_ (cur:List ag)(w m:Nat)(z:List SV)(hz:z.length=29)(hw:w+m=cur.length):(b_ (jT cur) (w*29) ((List.replicate m z).flatten)).take (w*29)=jT (cur.take w):=by
 have hl:((List.replicate m z).flatten).length=m*29:=by simp[hz]
 have hc:(jT cur).length=cur.length*29:=by rw[List.length_map,fV]
 rw[qD (by rw[hl,hc,<- hw,Nat.add_mul];exact Nat.le_refl _),List.append_assoc,List.take_append_of_le_length (by rw[List.length_take,hc,<- hw,Nat.add_mul];omega),List.take_of_length_le (by rw[List.length_take];omega)];show((cur.flatMap ag.ds).map SV.d).take (w*29)=_;rw[<- List.map_take]
 congr 1
 conv=>lhs;rw[<- List.take_append_drop w cur]
 rw[List.flatMap_append,List.take_append_of_le_length,List.take_of_length_le]
 .rw[fV,List.length_take];exact Nat.mul_le_mul_right 29 (Nat.min_le_left _ _)
 .rw[fV,List.length_take,Nat.min_eq_left (by omega)];exact Nat.le_refl _
section
attribute [local irreducible] SW RW aH SC aj ak
variable {σ:Type} {g:Nat} {first cap:List SV} {Fh:σ->Hp} {step:σ->ag->σ×Bool} {aV:Nat} {I:Nat->σ->Prop} {G:ag->Prop} {B:Nat}
variable (hd:yc Tryz.prog g first cap Fh step aV I G B)
include hd in
set_option maxHeartbeats 4000000 in
theorem BV (l : List ag)(s0:σ)(hl:l.length<1000000000)(hB:l.length<=B)(hG:∀ x,x∈l->G x)(hI:I 0 s0)(n k:Nat)(hn:n<k)(h0:mD Fh n k s0 s0)(mz:(Fh s0).ok (λ m=>(lk (Fh s0) m).isSome)=true):
    SB Tryz.prog slices_DeleteFunc_Lapi_Op_api_Op.f [.gs n l.length,.fn (.func g) first cap] ((n,.arr 43 29 l.length (jT l))::Fh s0) k (l.length*aV+l.length*(aV+1))
      (λ r F'=>r= .gs n (bK step s0 l).1.length/\F'=(n,.arr 43 29 (bK step s0 l).1.length (jT (bK step s0 l).1))::Fh (bK step s0 l).2):=by
  obtain⟨o1,o2⟩:=hd.a1 s0 _ h0.ok;have ok1:∀ kx,k<=kx->SV.ax (λ n=>decide (n<kx)) first=true/\SV.ax (λ n=>decide (n<kx)) cap=true:=λ kx hx=>hd.a1 s0 _ (Hp.bJ hx h0.ok)
  refine slices_DeleteFunc_Lapi_Op_api_Op.enter (by simp[SV.ok,SV.ax,o1,o2,hn]) (h0.tc hn _) (by simp) ?_;dsimp only[slices_DeleteFunc_Lapi_Op_api_Op.s,Co.M,Co.J,Co.N,Co.F,Co.bH,Co.K,Co.L,Co.Q,Co.W,Co.Y,Co.V,Co.O,Co.I,Co.S];have hx:=D7 hd l s0 hl hB hG hI n k hn h0 mz;have hm0:de (dg ((n,Ob.arr 43 29 l.length (jT l))::Fh s0) ((n,Ob.arr 43 29 l.length (jT l))::Fh (gh step s0 l).2) (Fh s0)) (Fh (gh step s0 l).2)=(n,Ob.arr 43 29 l.length (jT l))::Fh (gh step s0 l).2:=
    s9 (uP hd l s0).symm (h0.nd hd _)
  have h1s:mD Fh n k s0 (gh step s0 l).2:=⟨uP hd l s0,y9 hd l s0 h0.ok,jM (by rw[uP hd l s0];exact eN h0.no)⟩;refine SW.seq (SW.g0 be Zm aa ?_);refine SW.seq ?_;rcases hi:(gh step s0 l).1 with _|i
  . have hk:=lp hi
    rw[hi] at hx;have hx:aH Tryz.prog slices_IndexFunc_Lapi_Op_api_Op.f [.gs n l.length,.fn (.func g) first cap] ((n,.arr 43 29 l.length (jT l))::Fh s0) k (l.length*aV) (.d (.int .i64 (-1))) ((n,.arr 43 29 l.length (jT l))::Fh (gh step s0 l).2):=hx
    (refine SW.di be Zm ?_;(repeat (first|refine RW.ro hm0 (h:=?_)|refine RW.skip (h:=?_)|refine RW.op hm0 (h:=?_)|refine RW.dV hm0 (h:=?_)|refine RW.br (h:=?_)|(refine RW.bC (h:=?_);(first|refine aj.mk (hm0) (hs:=(λ _ _ h=>h)) (hc:=hx) (h:=?_)))));refine RW.nil ⟨by kernel_rfl,ak.mk (h:=?_)⟩)
    refine SW.seq (SW.seq (SW.g0 be Zm aa ?_));refine SW.ai rfl (SW.seq (SW.weak id (st1:=⟨[(0,.gs n l.length)],(n,.arr 43 29 l.length (jT l))::Fh (gh step s0 l).2,k+(l.length*aV+l.length*(aV+1))⟩) (aG.same (by simp) (by simp[aJ,List.lookup,SV.aC,SV.ok];omega) ((h1s.mono (by show k<=k+(l.length*aV+l.length*(aV+1));omega)).tc (by show n<k+(l.length*aV+l.length*(aV+1));omega) _) (aI (h1s.nd hd _))) ?_));refine SW.g0 be Zm aa ?_;refine SW.ret ?_;rw[hk];exact End.mk ((n,.arr 43 29 l.length (jT l))::Fh (gh step s0 l).2) (h3:=λ _ _ h=>h) (h4:=⟨rfl,rfl⟩) (h5:=by simp[fB,SV.ok];omega) (h6:=(h1s.mono (by omega)).tc (by omega) _)
  . obtain⟨hil,hk⟩:=Az hi
    have hI1:=F9 hd l s0 0 hG (by omega) hI i hi;rw[hi] at hx;have hx:aH Tryz.prog slices_IndexFunc_Lapi_Op_api_Op.f [.gs n l.length,.fn (.func g) first cap] ((n,.arr 43 29 l.length (jT l))::Fh s0) k (l.length*aV) (i64 i) ((n,.arr 43 29 l.length (jT l))::Fh (gh step s0 l).2):=hx;obtain⟨s1,hs1⟩:∃ s1,(gh step s0 l).2=s1:=⟨_,rfl⟩;rw[hs1] at hx hm0 h1s hk hI1
    (refine SW.di be Zm ?_;(repeat (first|refine RW.ro hm0 (h:=?_)|refine RW.skip (h:=?_)|refine RW.op hm0 (h:=?_)|refine RW.dV hm0 (h:=?_)|refine RW.br (h:=?_)|(refine RW.bC (h:=?_);(first|refine aj.mk (hm0) (hs:=(λ _ _ h=>h)) (hc:=hx) (h:=?_)))));refine RW.nil ⟨by kernel_rfl,ak.mk (h:=?_)⟩)
    have hne:((i:Int) == -1)=false:=by rw[beq_eq_false_iff_ne];omega
    refine SW.seq (SW.seq (SW.g0 be Zm hne ?_));refine SW.an rfl (SW.skip ?_);refine(?_:Sl.SW _ _ _ _ _ _);have e1:IntKind.i64.wrap ((i:Int)+1)=((i+1:Nat):Int):=wrap_i64 _ (by omega);refine SW.seq (SW.seq (SW.g0 be Zm e1 ?_));refine SW.block ?_
    let K0:=k+l.length*aV
    let Inv:Nat->Nat->List ag->σ->Prop:=λ j w cur s=>(j<=l.length/\w<j/\cur.length=l.length)/\cur.drop j=l.drop j/\I j s/\mD Fh n (K0+j*(aV+1)) s0 s/\bK step s0 l=(cur.take w++(bK step s (l.drop j)).1,(bK step s (l.drop j)).2)
    refine SW.loop (α:={x:Nat×Nat×List ag×σ // Inv x.1 x.2.1 x.2.2.1 x.2.2.2})
      (λ x=>⟨[(6,i64 x.1.1),(5,i64 x.1.2.1),(0,.gs n l.length),(1,.fn (.func g) first cap)],(n,.arr 43 29 l.length (jT x.1.2.2.1))::Fh x.1.2.2.2,K0+x.1.1*(aV+1)⟩) (λ x=>l.length - x.1.1)
      ⟨(i+1,i,l,s1),⟨by show i+1<=l.length;omega,by show i<i+1;omega,rfl⟩,rfl,by rw[Nat.zero_add] at hI1;exact hI1,h1s.mono (by show k<=k+l.length*aV+_;omega),hk⟩ id ?_ ?_
    . refine aG.same (by show k<=k+l.length*aV+_;omega) (by simp[aJ,List.lookup,SV.aC,SV.bS,SV.ok];exact⟨by show n<k+l.length*aV+_;omega,ok1 _ (by show k<=k+l.length*aV+_;omega)⟩) ((h1s.mono (by show k<=k+l.length*aV+_;omega)).tc (by show n<k+l.length*aV+_;omega) _) (aI (h1s.nd hd _))
    rintro⟨⟨j,w,cur,s⟩,⟨hj,hwj,hcl2⟩,hdr,hIs,hh,he⟩;dsimp only at hj hwj hcl2 hdr hIs hh he ⊢;have hKk:k<=K0+j*(aV+1):=by show k<=k+l.length*aV+_;omega
    obtain⟨K,hK⟩:∃ K,K0+j*(aV+1)=K:=⟨_,rfl⟩;have hK1:K0+(j+1)*(aV+1)=K+1+aV:=by rw[<- hK,Nat.succ_mul];omega
    rw[hK] at hh hKk ⊢
    by_cases h:j<l.length
    . have h1 : decide ((j:Int)<l.length)=true:=by simp only[decide_eq_true_eq];omega
      obtain⟨x,hxl⟩:=aX h;have hxc:cur[j]? =some x:=AE hdr hxl;have e2:IntKind.i64.wrap ((j:Int)+1)=((j+1:Nat):Int):=wrap_i64 _ (by omega);have e3:IntKind.i64.wrap ((w:Int)+1)=((w+1:Nat):Int):=wrap_i64 _ (by omega);have hGx:=hG x (List.mem_of_getElem? hxl);rw[drop_cons hxl] at he;simp only[bK] at he;have hfr:lk (Fh s) K=none:=Hp.out hh.ok (Nat.le_refl _);have hfr':List.lookup K (Fh s)=none:=hfr;have f1:=bX (show K≠n by omega);have hh1:=hh.mono (k':=K+1) (by omega);have hc:=hd.call j s x (K+1) hIs hGx (by omega) hh1.ok;have hs:HSub (Fh s) ((K,.box 43 x.cells)::(n,.arr 43 29 l.length (jT cur))::Fh s):=lI hfr (lI hh.no λ _ _ h=>h);have oM:(((K,Ob.box 43 x.cells)::(n,Ob.arr 43 29 l.length (jT cur))::Fh s:Hp).map (·.1)).Nodup:=rU (by rw[af,if_neg (by omega)];exact hfr) (hh.nd hd _);have hm:de (dg ((K,Ob.box 43 x.cells)::(n,Ob.arr 43 29 l.length (jT cur))::Fh s) (Fh (step s x).1) (Fh s)) (Fh (step s x).1)=(K,Ob.box 43 x.cells)::(n,.arr 43 29 l.length (jT cur))::Fh (step s x).1:=
        o9 (pre:=[(K,.box 43 x.cells),(n,.arr 43 29 l.length (jT cur))]) (hd.nm s x).symm oM
      have hh2:mD Fh n (K0+(j+1)*(aV+1)) s0 (step s x).1:=by rw[hK1];exact(hh.next hd x).mono (by omega)
      have hfr2:List.lookup K (Fh (step s x).1)=none:=jM (by rw[hd.nm s x];exact eN hfr);have hdr2:=yd hdr;refine SW.seq (SW.seq (SW.g0 be Zm h1 ?_));refine SW.ai rfl (SW.skip ?_);refine(?_:Sl.SW _ _ _ _ _ _);refine SW.seq (SW.block (SW.seq (SW.g0 be Zm (Zq (gW hxc) (Zq (cF hxc) (Zq hfr' f1))) ?_)));refine SW.seq ?_;rcases hb:(step s x).2 with _|_
      . rw[hb] at hc
        refine SW.g1 be Zm hm (Zq hs hc) ?_;refine SW.ai rfl (SW.seq ?_);have hs1:b_ (List.map SV.d (cur.flatMap ag.ds)) (w*29) x.cells=List.map SV.d ((cur.set w x).flatMap ag.ds):=Ma x (by omega);have hs2:(w*29+29<=(List.map SV.d (cur.flatMap ag.ds)).length)=True:=eq_true (by rw[List.length_map,fV,hcl2];omega);refine SW.g0 be Zm (Zq hs1 (Zq hs2 f1)) ?_;refine SW.g0 be Zm e3 ?_;refine SW.g0 be Zm e2 ?_;rw[if_neg (by rw[hb];simp)] at he;refine⟨⟨(j+1,w+1,cur.set w x,(step s x).1),⟨by show j+1<=l.length;omega,by show w+1<j+1;omega,by simp[hcl2]⟩,by rw[set_drop (by omega)];exact hdr2,hd.nx j s x hIs hGx (by omega),hh2,?_⟩,id,by simp;omega,?_⟩
        . rw[he,AD (by omega)];simp
        . exact aG.same (by show k<=k+l.length*aV+_;omega) (by simp [aJ,List.lookup,SV.aC,SV.bS,SV.ok];exact ⟨by show n<k+l.length*aV+_;omega,ok1 _ (by show k<=k+l.length*aV+_;omega)⟩) (hh2.tc (by show n<k+l.length*aV+_;omega) _) (λ y hy=>by
            rw[af,if_neg ?_]
            . exact aI (hh2.nd hd _) y hy
            . intro e
              rcases List.mem_cons.1 hy with rfl|hy
              . dsimp only at e;omega
              . have:=mT (aI (hd.nd _) y hy)
                rw[e] at this;exact eN hfr2 this)
      . rw[hb] at hc
        refine SW.g1 be Zm hm (Zq hs hc) ?_;refine SW.an rfl (SW.skip ?_);refine SW.g0 be Zm e2 ?_;rw [if_pos (by rw [hb])] at he;refine ⟨⟨(j+1,w,cur,(step s x).1),⟨by show j+1<=l.length;omega,by show w<j+1;omega,hcl2⟩,hdr2,hd.nx j s x hIs hGx (by omega),hh2,he⟩,id,by simp;omega,?_⟩;exact aG.same (by show k<=k+l.length*aV+_;omega) (by simp [aJ,List.lookup,SV.aC,SV.bS,SV.ok];exact ⟨by show n<k+l.length*aV+_;omega,ok1 _ (by show k<=k+l.length*aV+_;omega)⟩) (hh2.tc (by show n<k+l.length*aV+_;omega) _) (λ y hy=>by
            rw[af,if_neg ?_]
            . exact aI (hh2.nd hd _) y hy
            . intro e
              rcases List.mem_cons.1 hy with rfl|hy
              . dsimp only at e;omega
              . have:=mT (aI (hd.nd _) y hy)
                rw[e] at this;exact eN hfr2 this)
    . have h1:decide ((j:Int)<l.length)=false:=by simp only[decide_eq_false_iff_not];omega
      have e:j=l.length:=by omega
      rw[e,List.drop_length] at he;simp only[bK,List.append_nil] at he;have hKe:K=k+(l.length*aV+l.length*(aV+1)):=by rw[<- hK,e];show k+l.length*aV+_=_;omega
      rw[e] at h1;refine SW.seq (SW.seq ?_);rw[e];refine SW.g0 be Zm h1 ?_;refine SW.an rfl (SW.exit ?_);refine(?_:Sl.SW _ _ _ _ _ _);have e4:(w*29+(l.length - w)*29<=(List.map SV.d (cur.flatMap ag.ds)).length)=True:=eq_true (by
        rw[List.length_map,fV,hcl2,<- Nat.add_mul];exact Nat.mul_le_mul_right 29 (by omega))
      refine SW.seq (SW.g0 be Zm e4 ?_);have hz:(ag.zero.cells).length=29:=rfl;have hct:=F_ cur w (l.length - w) ag.zero.cells hz (by omega);obtain⟨Z,hZ⟩:∃ Z,b_ (jT cur) (w*29) (List.replicate (l.length - w) ag.zero.cells).flatten=Z:=⟨_,rfl⟩;rw[hZ] at hct;rw[hZ];refine SW.seq (SW.g0 be Zm aa ?_);refine SW.trim (n:=n) (e:=43) (sz:=29) (len:=l.length) (cs:=Z) w (by simp[af]) (by omega) ?_;dsimp only;rw[je,hct,hKe];rw[hKe] at hh;refine SW.ret ?_;rw[he];have hlw:(cur.take w).length=w:=by rw[List.length_take];omega
      exact End.mk ((n,.arr 43 29 w (jT (cur.take w)))::Fh s) (h3:=λ _ _ h=>h) (h4:=⟨by simp[fB,hlw],by simp[hlw]⟩) (h5:=by simp[fB,SV.ok];omega) (h6:=hh.tc (by omega) _)
include hd in
theorem vR (l:List ag)(s0:σ)(hl:l.length<1000000000)(hB:l.length<=B)(hG:∀ x,x∈l->G x)(hI:I 0 s0)(n k:Nat)(hn:n<k)(h0:mD Fh n k s0 s0)(mz:(Fh s0).ok (λ m=>(lk (Fh s0) m).isSome)=true):
  aH Tryz.prog slices_DeleteFunc_Lapi_Op_api_Op.f [.gs n l.length,.fn (.func g) first cap] ((n,.arr 43 29 l.length (jT l))::Fh s0) k (l.length*aV+l.length*(aV+1)) (.gs n (bK step s0 l).1.length)
   ((n,.arr 43 29 (bK step s0 l).1.length (jT (bK step s0 l).1))::Fh (bK step s0 l).2):=by
 unfold aH;have hq:=y_ (n:=n) (o:= .arr 43 29 l.length (jT l)) (λ q=>SV.aW _) mz h0.no;have hq0:(Fh s0).ok (λ m=>(lk ((n,Ob.arr 43 29 l.length (jT l))::Fh s0) m).isSome)=true:=by
  simp only[Hp.ok,List.all_cons,Bool.and_eq_true] at hq ⊢;exact hq.2
 obtain⟨o1,o2⟩:=hd.a1 s0 _ hq0;refine(BV hd l s0 hl hB hG hI n k hn h0 mz).here (λ m=>(lk ((n,Ob.arr 43 29 l.length (jT l))::Fh s0) m).isSome) (λ m h e=>by rw[e] at h;cases h) (by simp only[SV.ax,SV.ok,o1,o2,Bool.and_true];simp[af]) hq ?_;rintro x F ⟨rfl,rfl⟩ _ _;refine⟨by simp[SV.ok,af],?_⟩;have:=AB hd l s0 hq0;exact aA (by simp[af]) (SV.aW _) (Hp.eA (λ m hm=>by rw[hm];rfl) this)
end
end
section
structure Tr where
 bx:Nat
 ma:Nat
 mm:Nat
 at_:MM Dt Cr
 ca:Nat
 made:MM Dt ag
 cm:Nat
abbrev Tr.oa (T:Tr):Ob:= .map (au Dt.cells cv T.at_) T.ca
abbrev Tr.om (T:Tr):Ob:= .map (au Dt.cells ov T.made) T.cm
def Tr.hp (T:Tr):Hp:=[(T.bx,.box 166 [.mp T.ma,.mp T.mm]),(T.ma,.map (au Dt.cells cv T.at_) T.ca),(T.mm,.map (au Dt.cells ov T.made) T.cm)]
structure Tr.sep (T:Tr):Prop where
 ab:T.ma≠T.bx
 mb:T.mm≠T.bx
 am:T.ma≠T.mm
structure Tr.lt (T:Tr)(k:Nat):Prop where
 b:T.bx<k
 a:T.ma<k
 m:T.mm<k
theorem Tr.O9 {T:Tr}{q:Nat->Bool}(h1:q T.bx=true)(h2:q T.ma=true)(h3:q T.mm=true):T.hp.ok q=true:=by
 simp only[Tr.hp,Hp.ok,List.all_cons,List.all_nil,Ob.ok,SV.ax,SV.ok,h1,h2,h3,Bool.and_true,Bool.true_and];have a:=kG q T.at_;have b:=bG q T.made;simp only[a,b,Bool.and_true]
theorem Tr.tY {T:Tr}{k:Nat}(h:T.lt k):T.hp.ok (λ n=>decide (n<k))=true:=Tr.O9 (by simpa using h.b) (by simpa using h.a) (by simpa using h.m)
theorem Tr.names (T:Tr):T.hp.map (·.1)=[T.bx,T.ma,T.mm]:=rfl
theorem Tr.nd {T:Tr}(h:T.sep):(T.hp.map (·.1)).Nodup:=by
 have:=h.ab;have:=h.mb;have:=h.am;simp[Tr.names];omega
theorem Tr.Lb (T:Tr):lk T.hp T.bx=some (.box 166 [.mp T.ma,.mp T.mm]):=by simp[Tr.hp,af]
theorem Tr.Nz {T:Tr}(h:T.sep):lk T.hp T.ma=some T.oa:=by
 rw[Tr.hp,af,if_neg h.ab,af,if_pos rfl]
theorem Tr.Pv {T:Tr}(h:T.sep):lk T.hp T.mm=some T.om:=by
 rw[Tr.hp,af,if_neg h.mb,af,if_neg (Ne.symm h.am),af,if_pos rfl]
theorem Tr.cl {T:Tr}(h:T.sep):T.hp.ok (λ m=>(lk T.hp m).isSome)=true:=Tr.O9 (by rw[T.Lb];rfl) (by rw[Tr.Nz h];rfl) (by rw[Tr.Pv h];rfl)
theorem Tr.out {T:Tr}{m:Nat}(h1:m≠T.bx)(h2:m≠T.ma)(h3:m≠T.mm):lk T.hp m=none:=by
 rw[Tr.hp,af,if_neg h1,af,if_neg h2,af,if_neg h3];rfl
theorem Tr.QA {T:Tr}{k m:Nat}(h:T.lt k)(hm:k<=m):lk T.hp m=none:=by
 obtain⟨h1,h2,h3⟩:=h;exact Tr.out (by omega) (by omega) (by omega)
section
attribute [local irreducible] SW RW aH SC aj ak Tr.hp
variable {T:Tr} (hs:T.sep)
include hs in
theorem Jv {k:Nat}(hlt:T.lt k):aH Tryz.prog tree_Tree_none.f [.ptr T.bx 0] T.hp k 0 (bl false) T.hp:=by
 refine SB.same ?_ (Tr.cl hs) (by simp[SV.ax,SV.ok,Tr.hp,af]) (λ _=>rfl);refine tree_Tree_none.enter (by simp[SV.ax,SV.ok];exact hlt.b) (Tr.tY hlt) (by simp) ?_;dsimp only[tree_Tree_none.s,Co.M,Co.G,Co.J,Co.H,Co.F,Co.B,Co.S];have f1:=bX hs.ab;have u1:List.lookup T.bx T.hp=some (.box 166 [.mp T.ma,.mp T.mm]):=T.Lb;have u2:List.lookup T.ma T.hp=some T.oa:=Tr.Nz hs;(repeat (first|refine SW.seq ?_|refine SW.block ?_|refine SW.g0 fv Zm (Zq f1 (Zq u1 u2)) ?_|refine SW.skip ?_|refine SW.exit ?_|refine SW.ret ?_|refine SW.ai rfl ?_|refine SW.an rfl ?_));exact End.mk T.hp (h3:=λ _ _ h=>h) (h4:=⟨rfl,rfl⟩) (h6:=Tr.tY hlt)
theorem Da (o:ag){b k:Nat}(hb:b<k):aH Tryz.prog tree_Tree_Why_1.f [.ptr b 0] [(b,.box 43 o.cells)] k 0 (bl (decide (o.kind≠1))) [(b,.box 43 o.cells)]:=by
 refine SB.same ?_ (by simp[Hp.ok,Ob.ok,af]) (by simp[SV.ax,SV.ok,af]) (λ _=>rfl);refine tree_Tree_Why_1.enter (by simp[SV.ax,SV.ok];exact hb) (by simp[Hp.ok,Ob.ok];exact hb) (by simp) ?_;dsimp only[tree_Tree_Why_1.s,Co.M,Co.J,Co.F,Co.B,Co.b8,Co.T,Co.D,Co.S];have e1:(((o.kind:Nat):Int) != 1)=decide (o.kind≠1):=by
  rw[Bool.eq_iff_iff];simp only[bne_iff_ne,decide_eq_true_eq];omega
 (repeat (first|refine SW.seq ?_|refine SW.block ?_|refine SW.g0 [0,1] Zm e1 ?_|refine SW.skip ?_|refine SW.exit ?_|refine SW.ret ?_|refine SW.ai rfl ?_|refine SW.an rfl ?_));exact End.mk [(b,.box 43 o.cells)] (h3:=λ _ _ h=>h) (h4:=⟨rfl,rfl⟩) (h6:=by simp[Hp.ok,Ob.ok];exact hb)
theorem Db (c:Cr)(o:ag){b b2 k:Nat}(hb:b<k)(IN:b2<k)(hne:b≠b2):aH Tryz.prog tree_Tree_Why_3.f [.ptr b 0,.ptr b2 0] [(b2,.box 43 o.cells),(b,.box 158 c.cells)] k 0 (bl (decide (c.hold≠o.who))) [(b2,.box 43 o.cells),(b,.box 158 c.cells)]:=by
 refine SB.same ?_ (by simp[Hp.ok,Ob.ok,af,hne]) (by simp[SV.ax,SV.ok,af,hne]) (λ _=>rfl);refine tree_Tree_Why_3.enter (by simp[SV.ax,SV.ok];omega) (by simp[Hp.ok,Ob.ok];omega) (by simp) ?_;dsimp only[tree_Tree_Why_3.s,Co.M,Co.J,Co.F,Co.B,Co.T,Co.V,Co.D,Co.S];have f1:=bX hne;have e1:(((c.hold:Nat):Int) != ((o.who:Nat):Int))=decide (c.hold≠o.who):=by
  rw[Bool.eq_iff_iff];simp only[bne_iff_ne,decide_eq_true_eq];omega
 (repeat (first|refine SW.seq ?_|refine SW.block ?_|refine SW.g0 du Zm (Zq e1 f1) ?_|refine SW.skip ?_|refine SW.exit ?_|refine SW.ret ?_|refine SW.ai rfl ?_|refine SW.an rfl ?_));exact End.mk [(b2,.box 43 o.cells),(b,.box 158 c.cells)] (h3:=λ _ _ h=>h) (h4:=⟨rfl,rfl⟩) (h6:=by simp[Hp.ok,Ob.ok];omega)
theorem Dc (c:Cr){b k:Nat}(hb:b<k):aH Tryz.prog tree_Tree_Why_4.f [.ptr b 0] [(b,.box 158 c.cells)] k 0 (bl (bits .and .u8 (c.bn:Int) 1 == 0)) [(b,.box 158 c.cells)]:=by
 refine SB.same ?_ (by simp[Hp.ok,Ob.ok,af]) (by simp[SV.ax,SV.ok,af]) (λ _=>rfl);refine tree_Tree_Why_4.enter (by simp[SV.ax,SV.ok];exact hb) (by simp[Hp.ok,Ob.ok];exact hb) (by simp) ?_;dsimp only[tree_Tree_Why_4.s,Co.M,Co.J,Co.F,Co.B,Co.b8,Co.T,Co.D,Co.S];(repeat (first|refine SW.seq ?_|refine SW.block ?_|refine SW.g0 [0,1] Zm aa ?_|refine SW.skip ?_|refine SW.exit ?_|refine SW.ret ?_|refine SW.ai rfl ?_|refine SW.an rfl ?_));exact End.mk [(b,.box 158 c.cells)] (h3:=λ _ _ h=>h) (h4:=⟨rfl,rfl⟩) (h6:=by simp[Hp.ok,Ob.ok];exact hb)
def iy (o:ag)(c:Cr):Bool:=(((o.bn:Int) == 0) || (bits .andNot .u8 (o.bn:Int) (c.bn:Int) != 0)) || ((o.to:Int) == 0) || decide ((o.depth:Int)>=c.depth) || decide ((o.cap:Int)>c.cap)
theorem Dd (c:Cr)(o:ag){b b2 k:Nat}(hb:b<k)(IN:b2<k)(hne:b≠b2):aH Tryz.prog tree_Tree_Why_5.f [.ptr b2 0,.ptr b 0] [(b2,.box 43 o.cells),(b,.box 158 c.cells)] k 0 (bl (iy o c)) [(b2,.box 43 o.cells),(b,.box 158 c.cells)]:=by
 refine SB.same ?_ (by simp[Hp.ok,Ob.ok,af,hne]) (by simp[SV.ax,SV.ok,af,hne]) (λ _=>rfl);refine tree_Tree_Why_5.enter (by simp[SV.ax,SV.ok];omega) (by simp[Hp.ok,Ob.ok];omega) (by simp) ?_;dsimp only[tree_Tree_Why_5.s,Co.M,Co.J,Co.H,Co.F,Co.B,Co.b8,Co.aB,Co.T,Co.D,Co.S];have f1:=bX hne;rcases h1:((o.bn:Int) == 0) with _|_
 .skip
  rcases h2:(bits .andNot .u8 (o.bn:Int) (c.bn:Int) != 0) with _|_
  .skip
   rcases h3:((o.to:Int) == 0) with _|_
   .skip
    rcases h4:decide ((o.depth:Int)>=c.depth) with _|_
    .skip
     (repeat (first|refine SW.seq ?_|refine SW.block ?_|refine SW.g0 du Zm (Zq h1 (Zq h2 (Zq h3 (Zq h4 f1)))) ?_|refine SW.skip ?_|refine SW.exit ?_|refine SW.ret ?_|refine SW.ai rfl ?_|refine SW.an rfl ?_));exact End.mk [(b2,.box 43 o.cells),(b,.box 158 c.cells)] (h3:=λ _ _ h=>h) (h4:=⟨by simp only[iy,h1,h2,h3,h4,Bool.false_or,Bool.or_false,Bool.true_or];rfl,rfl⟩) (h6:=by simp[Hp.ok,Ob.ok];omega)
    ·(repeat (first|refine SW.seq ?_|refine SW.block ?_|refine SW.g0 du Zm (Zq h1 (Zq h2 (Zq h3 (Zq h4 f1)))) ?_|refine SW.skip ?_|refine SW.exit ?_|refine SW.ret ?_|refine SW.ai rfl ?_|refine SW.an rfl ?_))
     exact End.mk [(b2,.box 43 o.cells),(b,.box 158 c.cells)] (h3:=λ _ _ h=>h) (h4:=⟨by simp only[iy,h1,h2,h3,h4,Bool.false_or,Bool.or_false,Bool.true_or];rfl,rfl⟩) (h6:=by simp[Hp.ok,Ob.ok];omega)
   ·(repeat (first|refine SW.seq ?_|refine SW.block ?_|refine SW.g0 du Zm (Zq h1 (Zq h2 (Zq h3 f1))) ?_|refine SW.skip ?_|refine SW.exit ?_|refine SW.ret ?_|refine SW.ai rfl ?_|refine SW.an rfl ?_))
    exact End.mk [(b2,.box 43 o.cells),(b,.box 158 c.cells)] (h3:=λ _ _ h=>h) (h4:=⟨by simp only[iy,h1,h2,h3,Bool.false_or,Bool.or_false,Bool.true_or];rfl,rfl⟩) (h6:=by simp[Hp.ok,Ob.ok];omega)
  ·(repeat (first|refine SW.seq ?_|refine SW.block ?_|refine SW.g0 du Zm (Zq h1 (Zq h2 f1)) ?_|refine SW.skip ?_|refine SW.exit ?_|refine SW.ret ?_|refine SW.ai rfl ?_|refine SW.an rfl ?_))
   exact End.mk [(b2,.box 43 o.cells),(b,.box 158 c.cells)] (h3:=λ _ _ h=>h) (h4:=⟨by simp only[iy,h1,h2,Bool.false_or,Bool.or_false,Bool.true_or];rfl,rfl⟩) (h6:=by simp[Hp.ok,Ob.ok];omega)
 ·(repeat (first|refine SW.seq ?_|refine SW.block ?_|refine SW.g0 du Zm (Zq h1 f1) ?_|refine SW.skip ?_|refine SW.exit ?_|refine SW.ret ?_|refine SW.ai rfl ?_|refine SW.an rfl ?_))
  exact End.mk [(b2,.box 43 o.cells),(b,.box 158 c.cells)] (h3:=λ _ _ h=>h) (h4:=⟨by simp only[iy,h1,Bool.false_or,Bool.or_false,Bool.true_or];rfl,rfl⟩) (h6:=by simp[Hp.ok,Ob.ok];omega)
end
end
end Go.Proofs.YtaelhkkjgfobhaaGreat
namespace Go.Proofs.YtaelhkkjgfobhaaGreat
open Go.Sl Go.Proofs
section
def Tr.wh (T:Tr)(there:Bool)(c:Cr)(o:ag)(b6 b5 b3 b2:Nat):Hp:=(b6,.box 4 [bl there])::(b5,.box 158 c.cells)::(b3,.box 43 o.cells)::(b2,.box 105 [.ptr T.bx 0])::T.hp
def Tr.by (T:Tr)(o:ag):Cr:=(MM.get T.at_ o.aP).getD Cr.zero
def Tr.is (T:Tr)(o:ag):Bool:=MM.has T.at_ o.aP
def Tr.vS (T:Tr)(o:ag):ag:=(MM.get T.made o.aP).getD ag.zero
def Tr.gZ (T:Tr)(o:ag):Bool:=(!T.is o || !decide ((T.by o).aK=o.aK)) || !(T.vS o).before o
def Tr.why (T:Tr)(o:ag):Nat:=
 if o.kind≠1 then 2 else if T.gZ o then 272 else if (T.by o).hold≠o.who then 273 else if bits .and .u8 ((T.by o).bn:Int) 1 == 0 then 274 else if iy o (T.by o) then 275 else 0
section
attribute [local irreducible] SW RW aH SC aj ak Tr.hp
variable {T:Tr} (hs:T.sep)
include hs in
theorem Jw (o:ag){k n:Nat}(hlt:T.lt k)(hn:k+4<=n):aH Tryz.prog tree_Tree_Why_2.f [.ptr (k+3) 0,.ptr (k+2) 0,.ptr (k+1) 0,.ptr k 0] (T.wh (T.is o) (T.by o) o (k+3) (k+2) (k+1) k) n 0 (bl (T.gZ o)) (T.wh (T.is o) (T.by o) o (k+3) (k+2) (k+1) k):=by
 have hb:=hlt.b;have ha:=hlt.a;have hmm:=hlt.m;have hok:∀ q:Nat->Bool,q (k+3)=true->q (k+2)=true->q (k+1)=true->q k=true->q T.bx=true->q T.ma=true->q T.mm=true->Hp.ok q (T.wh (T.is o) (T.by o) o (k+3) (k+2) (k+1) k)=true:=λ q h1 h2 h3 h4 h5 h6 h7=>
  aA h1 rfl (aA h2 (by simp[Ob.ok]) (aA h3 (by simp[Ob.ok]) (aA h4 (by simp[Ob.ok,SV.ax,SV.ok,h5]) (Tr.O9 h5 h6 h7))))
 have hl:∀ m,m=k+3\/m=k+2\/m=k+1\/m=k\/m=T.bx\/m=T.ma\/m=T.mm->(lk (T.wh (T.is o) (T.by o) o (k+3) (k+2) (k+1) k) m).isSome=true:=λ m hm=>by
  unfold Tr.wh
  repeat (rw[af];split;· rfl)
  rcases hm with h|h|h|h|h|h|h
  .omega
  .omega
  .omega
  .omega
  .rw[h,T.Lb];rfl
  .rw[h,Tr.Nz hs];rfl
  .rw[h,Tr.Pv hs];rfl
 refine SB.same ?_ (hok _ (hl _ (by simp)) (hl _ (by simp)) (hl _ (by simp)) (hl _ (by simp)) (hl _ (by simp)) (hl _ (by simp)) (hl _ (by simp))) (by simp only[SV.ax,SV.ok,hl _ (.inl rfl),hl _ (.inr (.inl rfl)),hl _ (.inr (.inr (.inl rfl))),hl _ (.inr (.inr (.inr (.inl rfl))))];rfl) (λ _=>rfl);have hokk:Hp.ok (λ m=>decide (m<n)) (T.wh (T.is o) (T.by o) o (k+3) (k+2) (k+1) k)=true:=hok _ (by simp;omega) (by simp;omega) (by simp;omega) (by simp;omega) (by simp;omega) (by simp;omega) (by simp;omega);refine tree_Tree_Why_2.enter (by simp[SV.ax,SV.ok];omega) hokk (by simp) ?_;dsimp only[tree_Tree_Why_2.s,Co.M,Co.J,Co.H,Co.F,Co.C,Co.B,Co.bH,Co.T,Co.O,Co.S];have u1:List.lookup T.bx T.hp=some (.box 166 [.mp T.ma,.mp T.mm]):=T.Lb;have u3:List.lookup T.mm T.hp=some T.om:=Tr.Pv hs;have n1:=bX (show T.bx≠k+3 by omega);have n2:=bX (show T.bx≠k+2 by omega);have n3:=bX (show T.bx≠k+1 by omega);have n4:=bX (show T.bx≠k by omega);have m1:=bX (show T.mm≠k+3 by omega);have m2:=bX (show T.mm≠k+2 by omega);have m3:=bX (show T.mm≠k+1 by omega);have m4:=bX (show T.mm≠k by omega);have p1:=bX (show k+3≠k+2 by omega);have p2:=bX (show k+3≠k+1 by omega);have p3:=bX (show k+3≠k by omega);have p4:=bX (show k+2≠k+1 by omega);have p5:=bX (show k+2≠k by omega);have p6:=bX (show k+1≠k by omega);unfold Tr.wh at hokk ⊢;rcases h1:T.is o with _|_
 .rw[h1] at hokk
  (repeat (first|refine SW.seq ?_|refine SW.block ?_|(have fx:=(Zq n1 (Zq n2 (Zq n3 (Zq n4 (Zq p1 (Zq p2 (Zq p3 (Zq p4 (Zq p5 p6)))))))));refine SW.di ci Zm ?_;(repeat (first|refine RW.ro fx (h:=?_)|refine RW.skip (h:=?_)|refine RW.op fx (h:=?_)|refine RW.dV fx (h:=?_)|refine RW.br (h:=?_)|(refine RW.bC (h:=?_);(first|refine aj.mk fx (hc:=kO _ _ _) (h:=?_)))));refine RW.nil ⟨by kernel_rfl,ak.mk (h:=?_)⟩)|refine SW.skip ?_|refine SW.exit ?_|refine SW.ret ?_|refine SW.ai rfl ?_|refine SW.an rfl ?_));exact End.mk _ (h3:=λ _ _ h=>h) (h4:=⟨by simp only[Tr.gZ,h1];rfl,rfl⟩) (h6:=hokk)
 .rw[h1] at hokk
  rcases h2:decide ((T.by o).aK=o.aK) with _|_
  ·(repeat (first|refine SW.seq ?_|refine SW.block ?_|(have fx:=(Zq n1 (Zq n2 (Zq n3 (Zq n4 (Zq p1 (Zq p2 (Zq p3 (Zq p4 (Zq p5 (Zq p6 h2))))))))));refine SW.di ci Zm ?_;(repeat (first|refine RW.ro fx (h:=?_)|refine RW.skip (h:=?_)|refine RW.op fx (h:=?_)|refine RW.dV fx (h:=?_)|refine RW.br (h:=?_)|(refine RW.bC (h:=?_);(first|refine aj.mk fx (hc:=kO _ _ _) (h:=?_)))));refine RW.nil ⟨by kernel_rfl,ak.mk (h:=?_)⟩)|refine SW.skip ?_|refine SW.exit ?_|refine SW.ret ?_|refine SW.ai rfl ?_|refine SW.an rfl ?_))
   exact End.mk _ (h3:=λ _ _ h=>h) (h4:=⟨by simp only[Tr.gZ,h1,h2];rfl,rfl⟩) (h6:=hokk)
  .have e1:(MM.get T.made o.aP).getD ag.zero=T.vS o:=rfl
   have e2:((MM.get T.made o.aP).getD ag.zero).cells=(T.vS o).cells:=rfl;(repeat (first|refine SW.seq ?_|refine SW.block ?_|(have fx:=(Zq u1 (Zq u3 (Zq n1 (Zq n2 (Zq n3 (Zq n4 (Zq m1 (Zq m2 (Zq m3 (Zq m4 (Zq p1 (Zq p2 (Zq p3 (Zq p4 (Zq p5 (Zq p6 (Zq h2 e2)))))))))))))))));refine SW.di ci Zm ?_;(repeat (first|refine RW.ro fx (h:=?_)|refine RW.skip (h:=?_)|refine RW.op fx (h:=?_)|refine RW.dV fx (h:=?_)|refine RW.br (h:=?_)|(refine RW.bC (h:=?_);(first|refine aj.mk fx (hc:=kO _ _ _) (h:=?_)))));refine RW.nil ⟨by kernel_rfl,ak.mk (h:=?_)⟩)|refine SW.skip ?_|refine SW.exit ?_|refine SW.ret ?_|refine SW.ai rfl ?_|refine SW.an rfl ?_));exact End.mk _ (h3:=λ _ _ h=>h) (h4:=⟨by simp only[Tr.gZ,h1,h2];rfl,rfl⟩) (h6:=hokk)
end
abbrev jB (a:MM Dt Cr)(ca:Nat)(m:MM Dt ag)(cm:Nat):Tr:=⟨0,1,2,a,ca,m,cm⟩
abbrev gj (a:MM Dt Cr)(ca:Nat)(m:MM Dt ag)(cm:Nat):Hp:=[(0,.box 166 [.mp 1,.mp 2]),(1,.map (au Dt.cells cv a) ca),(2,.map (au Dt.cells ov m) cm)]
theorem qb (a:MM Dt Cr)(ca:Nat)(m:MM Dt ag)(cm:Nat):(jB a ca m cm).sep:=⟨by show(1:Nat)≠0;decide,by show(2:Nat)≠0;decide,by show(1:Nat)≠2;decide⟩
theorem qS (a:MM Dt Cr)(ca:Nat)(m:MM Dt ag)(cm:Nat){k:Nat}(h:3<=k):(jB a ca m cm).lt k:=⟨by show 0<k;omega,by show 1<k;omega,by show 2<k;omega⟩
theorem dG (a:MM Dt Cr)(ca:Nat)(m:MM Dt ag)(cm:Nat){k:Nat}(h:3<=k):(gj a ca m cm).ok (λ n=>decide (n<k))=true:=Tr.tY (qS a ca m cm h)
theorem lK (a:MM Dt Cr)(ca:Nat)(m:MM Dt ag)(cm:Nat){k:Nat}(h:3<=k):aH Tryz.prog tree_Tree_none.f [.ptr 0 0] (gj a ca m cm) k 0 (.d (.bool false)) (gj a ca m cm):=Jv (qb a ca m cm) (qS a ca m cm h)
theorem Ga (a:MM Dt Cr)(ca:Nat)(m:MM Dt ag)(cm:Nat)(o:ag){n:Nat}(h:7<=n):
  aH Tryz.prog tree_Tree_Why_2.f [.ptr 6 0,.ptr 5 0,.ptr 4 0,.ptr 3 0] ((6,.box 4 [bl (MM.has a o.aP)])::(5,.box 158 ((MM.get a o.aP).getD Cr.zero).cells)::(4,.box 43 o.cells)::(3,.box 105 [.ptr 0 0])::gj a ca m cm) n 0 (bl ((jB a ca m cm).gZ o))
   ((6,.box 4 [bl (MM.has a o.aP)])::(5,.box 158 ((MM.get a o.aP).getD Cr.zero).cells)::(4,.box 43 o.cells)::(3,.box 105 [.ptr 0 0])::gj a ca m cm):=Jw (T:=jB a ca m cm) (qb a ca m cm) o (k:=3) (qS a ca m cm (Nat.le_refl 3)) (by omega)
section
attribute [local irreducible] SW RW aH SC aj ak Tr.gZ iy
def zc:List SV:=[.d (.int .i64 2),.fn (.func 166) [] [.ptr 4 0],.d (.int .i64 272),.fn (.func 167) [] [.ptr 6 0,.ptr 5 0,.ptr 4 0,.ptr 3 0],.d (.int .i64 273),.fn (.func 168) [] [.ptr 5 0,.ptr 4 0],.d (.int .i64 274),.fn (.func 169) [] [.ptr 5 0],.d (.int .i64 275),.fn (.func 170) [] [.ptr 4 0,.ptr 5 0]]
theorem Gb:List.take 2 zc=[.d (.int .i64 2),.fn (.func 166) [] [.ptr 4 0]]:=rfl
theorem Gc:List.take 2 (List.drop 2 zc)=[.d (.int .i64 272),.fn (.func 167) [] [.ptr 6 0,.ptr 5 0,.ptr 4 0,.ptr 3 0]]:=rfl
theorem Gd:List.take 2 (List.drop 4 zc)=[.d (.int .i64 273),.fn (.func 168) [] [.ptr 5 0,.ptr 4 0]]:=rfl
theorem Ge:List.take 2 (List.drop 6 zc)=[.d (.int .i64 274),.fn (.func 169) [] [.ptr 5 0]]:=rfl
theorem Gf:List.take 2 (List.drop 8 zc)=[.d (.int .i64 275),.fn (.func 170) [] [.ptr 4 0,.ptr 5 0]]:=rfl
theorem gF:∀ (x y a b:SV),b_ [x,y] 0 [a,b]=[a,b]:=λ _ _ _ _=>rfl
@[simp] theorem Od:zc.length=10:=rfl
theorem Oe:∀ (x0 x1 x2 x3 x4 x5 x6 x7 x8 x9 a0 b0 a1 b1 a2 b2 a3 b3 a4 b4:SV),b_ (b_ (b_ (b_ (b_ ([x0,x1,x2,x3,x4,x5,x6,x7,x8,x9]) 0 [a0,b0]) 2 [a1,b1]) 4 [a2,b2]) 6 [a3,b3]) 8 [a4,b4]=[a0,b0,a1,b1,a2,b2,a3,b3,a4,b4]:=λ _ _ _ _ _ _ _ _ _ _ _ _ _ _ _ _ _ _ _ _=>rfl
set_option maxHeartbeats 4000000 in
theorem Md (a:MM Dt Cr)(ca:Nat)(m:MM Dt ag)(cm:Nat)(o:ag):SB Tryz.prog tree_Tree_Why.f [.ptr 0 0,.agg o.cells] (gj a ca m cm) 3 4 (λ r F'=>r=i64 ((jB a ca m cm).why o)/\F'=gj a ca m cm):=by
 refine tree_Tree_Why.enter (by simp[SV.ax,SV.ok]) (dG a ca m cm (Nat.le_refl 3)) (by simp) ?_;dsimp only[tree_Tree_Why.s,Co.M,Co.J,Co.F,Co.Z,Co.b8,Co.aB,Co.bE,Co.i6,Co.T,Co.K,Co.E,Co.P,Co.x,Co.W,Co.Y,Co.D,Co.A,Co.S];have hend:∀ n,7<=n->Hp.ok (λ m=>decide (m<3+4)) (gj a ca m cm)=true:=λ n _=>dG a ca m cm (by omega)
 refine SW.seq ?_
 (refine SW.di cY Zm ?_;(repeat (first|refine RW.ro aa (h:=?_)|refine RW.skip (h:=?_)|refine RW.op aa (h:=?_)|refine RW.dV aa (h:=?_)|refine RW.br (h:=?_)|(refine RW.bC (h:=?_);(first|refine aj.mk aa (hc:=lK a ca m cm (by omega)) (h:=?_)))));refine RW.nil ⟨by kernel_rfl,ak.mk (h:=?_)⟩)
 refine SW.seq (SW.seq ?_)
 (refine SW.di cY Zm ?_;(repeat (first|refine RW.ro aa (h:=?_)|refine RW.skip (h:=?_)|refine RW.op aa (h:=?_)|refine RW.dV aa (h:=?_)|refine RW.br (h:=?_)|(refine RW.bC (h:=?_);(first|refine aj.mk aa (hc:=lK a ca m cm (by omega)) (h:=?_)))));refine RW.nil ⟨by kernel_rfl,ak.mk (h:=?_)⟩)
 refine SW.an rfl (SW.skip ?_);refine(?_:Sl.SW _ _ _ _ _ _);obtain⟨c,hc⟩:∃ c,(MM.get a o.aP).getD Cr.zero=c:=⟨_,rfl⟩;have q2:=Ga a ca m cm o (n:=8) (by omega);rw[hc] at q2;refine SW.seq (SW.g0 cY Zm hc ?_);refine SW.seq (SW.seq ?_);have eR:[.d (.int .i64 2),.fn (.func 166) [] [.ptr 4 0],.d (.int .i64 272),.fn (.func 167) [] [.ptr 6 0,.ptr 5 0,.ptr 4 0,.ptr 3 0],.d (.int .i64 273),.fn (.func 168) [] [.ptr 5 0,.ptr 4 0],.d (.int .i64 274),.fn (.func 169) [] [.ptr 5 0],.d (.int .i64 275),.fn (.func 170) [] [.ptr 4 0,.ptr 5 0]]=zc:=rfl;refine SW.g0 cY Zm (Zq Ax (Zq Oe eR)) ?_;refine SW.block ?_
 let H7:Hp:=(6,.box 4 [bl (MM.has a o.aP)])::(5,.box 158 c.cells)::(4,.box 43 o.cells)::(3,.box 105 [.ptr 0 0])::gj a ca m cm
 have hH:∀ n,7<=n->Hp.ok (λ m=>decide (m<n)) H7=true:=λ n hn=>aA (by simp;omega) rfl (aA (by simp;omega) (by simp[Ob.ok]) (aA (by simp;omega) (by simp[Ob.ok]) (aA (by simp;omega) (by simp[Ob.ok,SV.ax,SV.ok];omega) (dG a ca m cm (by omega)))))
 have hR:SV.ax (λ n=>decide (n<7)) zc=true:=rfl
 let W:Bool->Bool->Bool->Bool->Bool->Nat->Prop:=λ r1 r2 r3 r4 r5 i=>(1<=i->r1=false)/\(2<=i->r2=false)/\(3<=i->r3=false)/\(4<=i->r4=false)/\(5<=i->r5=false)
 have hw:(jB a ca m cm).why o=if o.kind≠1 then 2 else if (jB a ca m cm).gZ o then 272 else if c.hold≠o.who then 273 else if bits .and .u8 (c.bn:Int) 1 == 0 then 274 else if iy o c then 275 else 0:=by
  unfold Tr.why Tr.by
  rw[show(jB a ca m cm).at_=a from rfl,hc]
 refine SW.loop (α:={i:Nat // i<=5/\W (decide (o.kind≠1)) ((jB a ca m cm).gZ o) (decide (c.hold≠o.who)) (bits .and .u8 (c.bn:Int) 1 == 0) (iy o c) i}) (λ i=>⟨[(32,i64 i.1),(31,.agg zc)],(6,.box 4 [bl (MM.has a o.aP)])::(5,.box 158 c.cells)::(4,.box 43 o.cells)::(3,.box 105 [.ptr 0 0])::[(0,.box 166 [.mp 1,.mp 2]),(1,.map (au Dt.cells cv a) ca),(2,.map (au Dt.cells ov m) cm)],7⟩) (λ i=>5 - i.1) ⟨0,by omega,by simp[W]⟩ id ?_ ?_
 .exact aG.same (by simp) (by simp[aJ,List.lookup,SV.aC,SV.bS,SV.ok,hR]) (hH 7 (by omega)) (aI (by simp[H7]))
 rintro⟨i,hi,w1,w2,w3,w4,w5⟩;have hdrop:∀ (x:Nat×Ob) (o2:Ob),x∈H7->lk ((7,o2)::H7) x.1=some x.2:=λ x o2 hx=>by
  have hl:=aI (h:=H7) (by simp[H7]) x hx;rw[af,if_neg ?_]
  .exact hl
  .intro e
   have:=(Hp.fu (hH 7 (by omega)) hl).1;simp at this;omega
 have hsub:∀ o2:Ob,HSub (gj a ca m cm) ((7,o2)::H7):=λ o2 n ob hn=>by
  have h3:n<3:=by
   have:=(Hp.fu (dG a ca m cm (Nat.le_refl 3)) hn).1
   simpa using this
  show lk ((7,o2)::(6,_)::(5,_)::(4,_)::(3,_)::gj a ca m cm) n=some ob;rw[af,if_neg (by omega),af,if_neg (by omega),af,if_neg (by omega),af,if_neg (by omega),af,if_neg (by omega)];exact hn
 have hsub7:HSub (gj a ca m cm) H7:=λ n ob hn=>by
  have h3:n<3:=by
   have:=(Hp.fu (dG a ca m cm (Nat.le_refl 3)) hn).1
   simpa using this
  show lk ((6,_)::(5,_)::(4,_)::(3,_)::gj a ca m cm) n=some ob;rw[af,if_neg (by omega),af,if_neg (by omega),af,if_neg (by omega),af,if_neg (by omega)];exact hn
 match i,hi,w1,w2,w3,w4,w5 with
 | 0,_,_,_,_,_,_=>
  rcases(Bool.eq_false_or_eq_true (decide (o.kind≠1))).symm with h0|h0
  .have con:=Da o (b:=4) (k:=8) (by omega)
   rw[h0] at con;(repeat (first|refine SW.seq ?_|refine SW.block ?_|refine SW.g1 cY Zm (Zq Gb gF) con ?_|refine SW.skip ?_|refine SW.exit ?_|refine SW.ret ?_|refine SW.ai rfl ?_|refine SW.an rfl ?_));refine⟨⟨1,by omega,λ _=>h0,λ h=>absurd h (by omega),λ h=>absurd h (by omega),λ h=>absurd h (by omega),λ h=>absurd h (by omega)⟩,id,by dsimp only;omega,?_⟩;exact aG.same (by simp) (by simp[aJ,List.lookup,SV.aC,SV.bS,SV.ok,hR]) (hH 7 (by omega)) (λ x hx=>hdrop x _ hx)
  .have con:=Da o (b:=4) (k:=8) (by omega)
   rw[h0] at con;(repeat (first|refine SW.seq ?_|refine SW.block ?_|refine SW.g1 cY Zm (Zq Gb gF) con ?_|refine SW.skip ?_|refine SW.exit ?_|refine SW.ret ?_|refine SW.ai rfl ?_|refine SW.an rfl ?_));exact End.mk (gj a ca m cm) (h3:=hsub _) (h4:=⟨by rw[hw];rw[if_pos (by simpa using h0)];rfl,rfl⟩) (h6:=dG a ca m cm (by omega))
 | 1,_,w1,_,_,_,_=>
  have z1:=w1 (by omega);rcases(Bool.eq_false_or_eq_true ((jB a ca m cm).gZ o)).symm with h0|h0
  .have con:=q2
   rw[h0] at con;(repeat (first|refine SW.seq ?_|refine SW.block ?_|refine SW.g1 cY Zm (Zq Gc gF) con ?_|refine SW.skip ?_|refine SW.exit ?_|refine SW.ret ?_|refine SW.ai rfl ?_|refine SW.an rfl ?_));refine⟨⟨2,by omega,λ _=>z1,λ _=>h0,λ h=>absurd h (by omega),λ h=>absurd h (by omega),λ h=>absurd h (by omega)⟩,id,by dsimp only;omega,?_⟩;exact aG.same (by simp) (by simp[aJ,List.lookup,SV.aC,SV.bS,SV.ok,hR]) (hH 7 (by omega)) (λ x hx=>hdrop x _ hx)
  .have con:=q2
   rw[h0] at con;(repeat (first|refine SW.seq ?_|refine SW.block ?_|refine SW.g1 cY Zm (Zq Gc gF) con ?_|refine SW.skip ?_|refine SW.exit ?_|refine SW.ret ?_|refine SW.ai rfl ?_|refine SW.an rfl ?_));exact End.mk (gj a ca m cm) (h3:=hsub _) (h4:=⟨by rw[hw];rw[if_neg (by simpa using z1)];rw[if_pos (by simpa using h0)];rfl,rfl⟩) (h6:=dG a ca m cm (by omega))
 | 2,_,w1,w2,_,_,_=>
  have z1:=w1 (by omega);have z2:=w2 (by omega);rcases(Bool.eq_false_or_eq_true (decide (c.hold≠o.who))).symm with h0|h0
  .have con:=Db c o (b:=5) (b2:=4) (k:=8) (by omega) (by omega) (by omega)
   rw[h0] at con;(repeat (first|refine SW.seq ?_|refine SW.block ?_|refine SW.g1 cY Zm (Zq Gd gF) con ?_|refine SW.skip ?_|refine SW.exit ?_|refine SW.ret ?_|refine SW.ai rfl ?_|refine SW.an rfl ?_));refine⟨⟨3,by omega,λ _=>z1,λ _=>z2,λ _=>h0,λ h=>absurd h (by omega),λ h=>absurd h (by omega)⟩,id,by dsimp only;omega,?_⟩;exact aG.same (by simp) (by simp[aJ,List.lookup,SV.aC,SV.bS,SV.ok,hR]) (hH 7 (by omega)) (λ x hx=>hdrop x _ hx)
  .have con:=Db c o (b:=5) (b2:=4) (k:=8) (by omega) (by omega) (by omega)
   rw[h0] at con;(repeat (first|refine SW.seq ?_|refine SW.block ?_|refine SW.g1 cY Zm (Zq Gd gF) con ?_|refine SW.skip ?_|refine SW.exit ?_|refine SW.ret ?_|refine SW.ai rfl ?_|refine SW.an rfl ?_));exact End.mk (gj a ca m cm) (h3:=hsub _) (h4:=⟨by rw[hw];rw[if_neg (by simpa using z1)];rw[if_neg (by simpa using z2)];rw[if_pos (by simpa using h0)];rfl,rfl⟩) (h6:=dG a ca m cm (by omega))
 | 3,_,w1,w2,w3,_,_=>
  have z1:=w1 (by omega);have z2:=w2 (by omega);have z3:=w3 (by omega);rcases(Bool.eq_false_or_eq_true ((bits .and .u8 (c.bn:Int) 1 == 0))).symm with h0|h0
  .have con:=Dc c (b:=5) (k:=8) (by omega)
   rw[h0] at con;(repeat (first|refine SW.seq ?_|refine SW.block ?_|refine SW.g1 cY Zm (Zq Ge gF) con ?_|refine SW.skip ?_|refine SW.exit ?_|refine SW.ret ?_|refine SW.ai rfl ?_|refine SW.an rfl ?_));refine⟨⟨4,by omega,λ _=>z1,λ _=>z2,λ _=>z3,λ _=>h0,λ h=>absurd h (by omega)⟩,id,by dsimp only;omega,?_⟩;exact aG.same (by simp) (by simp[aJ,List.lookup,SV.aC,SV.bS,SV.ok,hR]) (hH 7 (by omega)) (λ x hx=>hdrop x _ hx)
  .have con:=Dc c (b:=5) (k:=8) (by omega)
   rw[h0] at con;(repeat (first|refine SW.seq ?_|refine SW.block ?_|refine SW.g1 cY Zm (Zq Ge gF) con ?_|refine SW.skip ?_|refine SW.exit ?_|refine SW.ret ?_|refine SW.ai rfl ?_|refine SW.an rfl ?_));exact End.mk (gj a ca m cm) (h3:=hsub _) (h4:=⟨by rw[hw];rw[if_neg (by simpa using z1)];rw[if_neg (by simpa using z2)];rw[if_neg (by simpa using z3)];rw[if_pos (by simpa using h0)];rfl,rfl⟩) (h6:=dG a ca m cm (by omega))
 | 4,_,w1,w2,w3,w4,_=>
  have z1:=w1 (by omega);have z2:=w2 (by omega);have z3:=w3 (by omega);have z4:=w4 (by omega);rcases(Bool.eq_false_or_eq_true (iy o c)).symm with h0|h0
  .have con:=Dd c o (b:=5) (b2:=4) (k:=8) (by omega) (by omega) (by omega)
   rw[h0] at con;(repeat (first|refine SW.seq ?_|refine SW.block ?_|refine SW.g1 cY Zm (Zq Gf gF) con ?_|refine SW.skip ?_|refine SW.exit ?_|refine SW.ret ?_|refine SW.ai rfl ?_|refine SW.an rfl ?_));refine⟨⟨5,by omega,λ _=>z1,λ _=>z2,λ _=>z3,λ _=>z4,λ _=>h0⟩,id,by dsimp only;omega,?_⟩;exact aG.same (by simp) (by simp[aJ,List.lookup,SV.aC,SV.bS,SV.ok,hR]) (hH 7 (by omega)) (λ x hx=>hdrop x _ hx)
  .have con:=Dd c o (b:=5) (b2:=4) (k:=8) (by omega) (by omega) (by omega)
   rw[h0] at con;(repeat (first|refine SW.seq ?_|refine SW.block ?_|refine SW.g1 cY Zm (Zq Gf gF) con ?_|refine SW.skip ?_|refine SW.exit ?_|refine SW.ret ?_|refine SW.ai rfl ?_|refine SW.an rfl ?_));exact End.mk (gj a ca m cm) (h3:=hsub _) (h4:=⟨by rw[hw];rw[if_neg (by simpa using z1)];rw[if_neg (by simpa using z2)];rw[if_neg (by simpa using z3)];rw[if_neg (by simpa using z4)];rw[if_pos (by simpa using h0)];rfl,rfl⟩) (h6:=dG a ca m cm (by omega))
 | 5,_,w1,w2,w3,w4,w5=>
  have z1:=w1 (by omega);have z2:=w2 (by omega);have z3:=w3 (by omega);have z4:=w4 (by omega);have z5:=w5 (by omega);(repeat (first|refine SW.seq ?_|refine SW.block ?_|refine SW.g0 cY Zm aa ?_|refine SW.skip ?_|refine SW.exit ?_|refine SW.ret ?_|refine SW.ai rfl ?_|refine SW.an rfl ?_));exact End.mk (gj a ca m cm) (h3:=hsub7) (h4:=⟨by rw[hw];rw[if_neg (by simpa using z1)];rw[if_neg (by rw[z2];simp)];rw[if_neg (by simpa using z3)];rw[if_neg (by simpa using z4)];rw[if_neg (by simpa using z5)];rfl,rfl⟩) (h6:=dG a ca m cm (by omega))
end
end
section
theorem ow (T:Tr)(k:Nat):Hp.aC (eu [T.bx,T.ma,T.mm] k) (gj T.at_ T.ca T.made T.cm)=T.hp:=by
 simp only[Hp.aC,gj,List.map_cons,List.map_nil,Ob.aC,SV.aN,SV.aC,j5,cG,Tr.hp];rfl
theorem Tr.Of {T:Tr}(h:T.sep):([T.bx,T.ma,T.mm]:List Nat).Nodup:=Tr.nd h
theorem td (a:MM Dt Cr)(ca:Nat)(m:MM Dt ag)(cm:Nat):∀ i,i<3->lk (gj a ca m cm) i≠none:=λ i hi=>by
 rcases(show i=0\/i=1\/i=2 by omega) with rfl|rfl|rfl<;>simp[af]
theorem Gg {T:Tr}(hs:T.sep)(o:ag)(k:Nat):aH Tryz.prog tree_Tree_Why.f [.ptr T.bx 0,.agg o.cells] T.hp k 4 (i64 (T.why o)) T.hp:=by
 have h:=SB.lR [T.bx,T.ma,T.mm] (Md T.at_ T.ca T.made T.cm o) (Tr.Of hs) (td _ _ _ _) k;rw[ow] at h;simp only[SV.aN,SV.aC,ag.aq] at h;exact h
section
attribute [local irreducible] SW RW aH SC aj ak
theorem Me (a:MM Dt Cr)(ca:Nat)(m:MM Dt ag)(cm:Nat)(d:Dt):SB Tryz.prog tree_Tree_Get.f [.ptr 0 0,.agg d.cells] (gj a ca m cm) 3 3 (λ r F'=>r= .dL [.agg ((MM.get a d).getD Cr.zero).cells,i64 (if MM.has a d then 0 else 7)]/\F'=gj a ca m cm):=by
 refine tree_Tree_Get.enter (by simp[SV.ax,SV.ok]) (dG a ca m cm (Nat.le_refl 3)) (by simp) ?_;dsimp only[tree_Tree_Get.s,Co.M,Co.J,Co.F,Co.Z,Co.b8,Co.aB,Co.bE,Co.i6,Co.T,Co.K,Co.E,Co.P,Co.x,Co.W,Co.O,Co.D,Co.A,Co.S];rcases hh:MM.has a d with _|_
 ·(repeat (first|refine SW.seq ?_|refine SW.block ?_|(refine SW.di [0,1,3,4,5,6,7,9,21] Zm ?_;(repeat (first|refine RW.ro hh (h:=?_)|refine RW.skip (h:=?_)|refine RW.op hh (h:=?_)|refine RW.dV hh (h:=?_)|refine RW.br (h:=?_)|(refine RW.bC (h:=?_);(first|refine aj.mk (hh) (hc:=lK a ca m cm (by omega)) (h:=?_)))));refine RW.nil ⟨by kernel_rfl,ak.mk (h:=?_)⟩)|refine SW.skip ?_|refine SW.exit ?_|refine SW.ret ?_|refine SW.ai rfl ?_|refine SW.an rfl ?_))
  have e:MM.get a d=none:=by simpa[MM.has] using hh
  rw[e];refine End.mk (gj a ca m cm) (h4:=⟨rfl,rfl⟩) (h6:=dG a ca m cm (by omega))
 ·(repeat (first|refine SW.seq ?_|refine SW.block ?_|(refine SW.di [0,1,3,4,5,6,7,9,21] Zm ?_;(repeat (first|refine RW.ro hh (h:=?_)|refine RW.skip (h:=?_)|refine RW.op hh (h:=?_)|refine RW.dV hh (h:=?_)|refine RW.br (h:=?_)|(refine RW.bC (h:=?_);(first|refine aj.mk (hh) (hc:=lK a ca m cm (by omega)) (h:=?_)))));refine RW.nil ⟨by kernel_rfl,ak.mk (h:=?_)⟩)|refine SW.skip ?_|refine SW.exit ?_|refine SW.ret ?_|refine SW.ai rfl ?_|refine SW.an rfl ?_))
  refine End.mk (gj a ca m cm) (h4:=⟨rfl,rfl⟩) (h6:=dG a ca m cm (by omega))
theorem get_at {T:Tr}(hs:T.sep)(d:Dt)(k:Nat):aH Tryz.prog tree_Tree_Get.f [.ptr T.bx 0,.agg d.cells] T.hp k 3 (.dL [.agg ((MM.get T.at_ d).getD Cr.zero).cells,i64 (if MM.has T.at_ d then 0 else 7)]) T.hp:=by
 have h:=SB.lR [T.bx,T.ma,T.mm] (Me T.at_ T.ca T.made T.cm d) (Tr.Of hs) (td _ _ _ _) k;rw[ow] at h;simp only[SV.aN,SV.aC,Dt.aq,Cr.aq] at h;exact h
end
@[simp] theorem Pw (d:Dt):(b_ Cr.zero.cells 0 d.cells).length=11:=rfl
@[simp] theorem Px (d e:Dt):(b_ (b_ Cr.zero.cells 0 d.cells) 2 e.cells).length=11:=rfl
@[simp] theorem Py (d e f:Dt):(b_ (b_ (b_ Cr.zero.cells 0 d.cells) 2 e.cells) 4 f.cells).length=11:=rfl
def vT (o:ag):Cr:=⟨o.dot,o.dot,⟨0,0⟩,o.who,7,8,1099511627776,0⟩
def BW (T:Tr)(o:ag):Cr:=⟨o.dot,o.aK,o.aP,o.to,o.bn,o.depth,o.cap,IntKind.i64.wrap ((T.by o).level+1)⟩
def Tr.bT (T:Tr)(o:ag):Bool:=(decide (o.kind=0) && !decide (o.aK=o.dot)) || (decide (o.kind=1) && decide (T.why o≠0))
def Tr.o_ (T:Tr)(o:ag):Cr:=if o.kind=1 then BW T o else vT o
def Tr.put (T:Tr)(o:ag):Tr×Bool:=if T.bT o then (T,false) else
 ({ T with at_:=MM.put T.at_ T.ca o.dot (T.o_ o),ca:=MM.jy T.at_ T.ca o.dot,made:=MM.put T.made T.cm o.dot o,cm:=MM.jy T.made T.cm o.dot},true)
theorem qc (d:Dt)(who:Nat):b_ (b_ (b_ (b_ (b_ (b_ Cr.zero.cells 0 d.cells) 2 d.cells) 6 [.d (.int .u32 (who:Int))]) 7 [.d (.int .u8 7)]) 8 [.d (.int .u8 8)]) 9 [.d (.int .u64 1099511627776)]=(⟨d,d,⟨0,0⟩,who,7,8,1099511627776,0⟩:Cr).cells:=rfl
theorem BX (d e f:Dt)(a b c g:Nat)(l:Int):b_ (b_ (b_ (b_ (b_ (b_ (b_ (b_ Cr.zero.cells 0 d.cells) 2 e.cells) 4 f.cells) 6 [.d (.int .u32 (a:Int))]) 7 [.d (.int .u8 (b:Int))]) 8 [.d (.int .u8 (c:Int))]) 9 [.d (.int .u64 (g:Int))]) 10 [.d (.int .i64 l)]=(⟨d,e,f,a,b,c,g,l⟩:Cr).cells:=rfl
section
attribute [local irreducible] SW RW aH SC aj ak Tr.why
set_option maxHeartbeats 4000000 in
theorem Mf (a:MM Dt Cr)(ca:Nat)(m:MM Dt ag)(cm:Nat)(hw1:MM.wf a ca)(Mg:MM.wf m cm)(o:ag):
  SB Tryz.prog tree_Tree_put.f [.ptr 0 0,.agg o.cells] (gj a ca m cm) 3 2 (λ r F'=>r=bl ((jB a ca m cm).put o).2/\F'=gj ((jB a ca m cm).put o).1.at_ ((jB a ca m cm).put o).1.ca ((jB a ca m cm).put o).1.made ((jB a ca m cm).put o).1.cm):=by
 refine tree_Tree_put.enter (by simp[SV.ax,SV.ok]) (dG a ca m cm (Nat.le_refl 3)) (by simp) ?_;dsimp only[tree_Tree_put.s,Co.M,Co.G,Co.J,Co.H,Co.N,Co.F,Co.C,Co.Z,Co.B,Co.b8,Co.aB,Co.bE,Co.i6,Co.bH,Co.T,Co.K,Co.E,Co.x,Co.W,Co.Y,Co.U,Co.D,Co.A,Co.S];obtain⟨W,hW⟩:∃ W,(jB a ca m cm).why o=W:=⟨_,rfl⟩;have cw:aH Tryz.prog tree_Tree_Why.f [.ptr 0 0,.agg o.cells] (gj a ca m cm) 5 4 (i64 W) (gj a ca m cm):=by
  rw[<- hW];exact Gg (qb a ca m cm) o 5
 refine SW.seq ?_
 (refine SW.di fg Zm ?_;(repeat (first|refine RW.ro aa (h:=?_)|refine RW.skip (h:=?_)|refine RW.op aa (h:=?_)|refine RW.dV aa (h:=?_)|refine RW.br (h:=?_)|(refine RW.bC (h:=?_);(first|refine aj.mk aa (hc:=lK a ca m cm (by omega)) (h:=?_)))));refine RW.nil ⟨by kernel_rfl,ak.mk (h:=?_)⟩)
 refine SW.seq ?_
 (refine SW.di fg Zm ?_;(repeat (first|refine RW.ro qc (h:=?_)|refine RW.skip (h:=?_)|refine RW.op qc (h:=?_)|refine RW.dV qc (h:=?_)|refine RW.br (h:=?_)|(refine RW.bC (h:=?_);(first|refine aj.mk (qc) (hc:=lK a ca m cm (by omega)) (h:=?_)))));refine RW.nil ⟨by kernel_rfl,ak.mk (h:=?_)⟩)
 refine SW.seq ?_;have ok9:∀ (a':MM Dt Cr) ca' (m':MM Dt ag) cm',Hp.ok (λ x=>decide (x<3+2)) (gj a' ca' m' cm')=true:=λ a' ca' m' cm'=>dG a' ca' m' cm' (by omega)
 have hR:∀ v,(jB a ca m cm).bT o=v->((decide (o.kind=0) && !decide (o.aK=o.dot)) || (decide (o.kind=1) && decide (W≠0)))=v:=λ v h=>by rw[<- h];unfold Tr.bT;rw[hW]
 have k0:(((o.kind:Nat):Int) == 0)=decide (o.kind=0):=by rw[Bool.eq_iff_iff];simp only[beq_iff_eq,decide_eq_true_eq];omega
 have k1:(((o.kind:Nat):Int) == 1)=decide (o.kind=1):=by rw[Bool.eq_iff_iff];simp only[beq_iff_eq,decide_eq_true_eq];omega
 have kW:(((W:Nat):Int) != 0)=decide (W≠0):=by rw[Bool.eq_iff_iff];simp only[bne_iff_ne,decide_eq_true_eq];omega
 have fe1:=uH (vs:=cv) (kc:=Dt.cells) hw1 o.dot Cr.zero;have fe2:=uH (vs:=ov) (kc:=Dt.cells) Mg o.dot ag.zero;have gb:=λ l=>BX o.dot o.aK o.aP o.to o.bn o.depth o.cap l
 have ee:(MM.get a o.aP).getD Cr.zero=(jB a ca m cm).by o:=rfl
 -- it is refused
 have fin0:∀ env,(jB a ca m cm).bT o=true->(env:List (Nat×SV)).lookup 4=some (bl false)->∀ X:Hp,HSub (gj a ca m cm) X->∀ K,5<=K->Sl.Fin 3 2 tree_Tree_put.rv (λ r F'=>r=bl ((jB a ca m cm).put o).2/\F'=gj ((jB a ca m cm).put o).1.at_ ((jB a ca m cm).put o).1.ca ((jB a ca m cm).put o).1.made ((jB a ca m cm).put o).1.cm) ⟨env,X,K⟩:=λ env hr he X hX K hK=>by
  have e:(jB a ca m cm).put o=(jB a ca m cm,false):=by unfold Tr.put;rw[if_pos hr]
  rw[e];exact End.mk (ss:=[bl false]) (ob:=True) (gj a ca m cm) (h1:=by simp[tree_Tree_put.rv,Fb,he]) (h2:=trivial) (h3:=hX) (h4:=⟨rfl,rfl⟩) (h5:=rfl) (h6:=ok9 _ _ _ _) (h7:=by simpa using hK)
 rcases(Bool.eq_false_or_eq_true (decide (o.kind=0))).symm with d0|d0
 .rcases(Bool.eq_false_or_eq_true (decide (o.kind=1))).symm with d1|d1
  .skip
   have hr:(jB a ca m cm).bT o=false:=by unfold Tr.bT;rw[hW,d0,d1];rfl
   have e:(jB a ca m cm).put o=(({ jB a ca m cm with at_:=MM.put a ca o.dot (vT o),ca:=MM.jy a ca o.dot,made:=MM.put m cm o.dot o,cm:=MM.jy m cm o.dot}:Tr),true):=by
    unfold Tr.put Tr.o_;rw[if_neg (by rw[hr];simp),if_neg (by simpa using d1)]
   rw[e];(repeat (first|refine SW.seq ?_|refine SW.block ?_|refine SW.g1 fg Zm (Zq k0 (Zq k1 (Zq kW (Zq d0 (Zq d1 (Zq fe1 fe2)))))) cw ?_|refine SW.skip ?_|refine SW.exit ?_|refine SW.ret ?_|refine SW.ai rfl ?_|refine SW.an rfl ?_));exact End.mk (gj _ _ _ _) (h4:=⟨rfl,rfl⟩) (h6:=ok9 _ _ _ _)
  .rcases(Bool.eq_false_or_eq_true (decide (W≠0))).symm with dW|dW
   .skip
    have hr:(jB a ca m cm).bT o=false:=by unfold Tr.bT;rw[hW,d0,d1,dW];rfl
    have e:(jB a ca m cm).put o=(({ jB a ca m cm with at_:=MM.put a ca o.dot (BW (jB a ca m cm) o),ca:=MM.jy a ca o.dot,made:=MM.put m cm o.dot o,cm:=MM.jy m cm o.dot}:Tr),true):=by
     unfold Tr.put Tr.o_;rw[if_neg (by rw[hr];simp),if_pos (by simpa using d1)]
    rw[e];(repeat (first|refine SW.seq ?_|refine SW.block ?_|refine SW.g1 fg Zm (Zq k0 (Zq k1 (Zq kW (Zq d0 (Zq d1 (Zq dW (Zq gb (Zq ee (Zq fe1 fe2))))))))) cw ?_|refine SW.skip ?_|refine SW.exit ?_|refine SW.ret ?_|refine SW.ai rfl ?_|refine SW.an rfl ?_));exact End.mk (gj _ _ _ _) (h4:=⟨rfl,rfl⟩) (h6:=ok9 _ _ _ _)
   .have hr:(jB a ca m cm).bT o=true:=by unfold Tr.bT;rw[hW,d0,d1,dW];rfl
    (repeat (first|refine SW.seq ?_|refine SW.block ?_|refine SW.g1 fg Zm (Zq k0 (Zq k1 (Zq kW (Zq d0 (Zq d1 dW))))) cw ?_|refine SW.skip ?_|refine SW.exit ?_|refine SW.ret ?_|refine SW.ai rfl ?_|refine SW.an rfl ?_));exact fin0 _ hr rfl _ (by repeat (first|exact HSub.nil _|refine HSub.cons (by rfl) ?_)) _ (by simp)
 .rcases(Bool.eq_false_or_eq_true (decide (o.aK=o.dot))).symm with dc|dc
  .have hr:(jB a ca m cm).bT o=true:=by unfold Tr.bT;rw[d0,dc];rfl
   (repeat (first|refine SW.seq ?_|refine SW.block ?_|refine SW.g1 fg Zm (Zq k0 (Zq k1 (Zq kW (Zq d0 dc)))) cw ?_|refine SW.skip ?_|refine SW.exit ?_|refine SW.ret ?_|refine SW.ai rfl ?_|refine SW.an rfl ?_));exact fin0 _ hr rfl _ (by repeat (first|exact HSub.nil _|refine HSub.cons (by rfl) ?_)) _ (by simp)
  .have d1:decide (o.kind=1)=false:=by simp at d0 ⊢;omega
   have hr:(jB a ca m cm).bT o=false:=by unfold Tr.bT;rw[d0,d1,dc];rfl
   have e:(jB a ca m cm).put o=(({ jB a ca m cm with at_:=MM.put a ca o.dot (vT o),ca:=MM.jy a ca o.dot,made:=MM.put m cm o.dot o,cm:=MM.jy m cm o.dot}:Tr),true):=by
    unfold Tr.put Tr.o_;rw[if_neg (by rw[hr];simp),if_neg (by simpa using d1)]
   rw[e];(repeat (first|refine SW.seq ?_|refine SW.block ?_|refine SW.g1 fg Zm (Zq k0 (Zq k1 (Zq kW (Zq d0 (Zq d1 (Zq dc (Zq fe1 fe2))))))) cw ?_|refine SW.skip ?_|refine SW.exit ?_|refine SW.ret ?_|refine SW.ai rfl ?_|refine SW.an rfl ?_));exact End.mk (gj _ _ _ _) (h4:=⟨rfl,rfl⟩) (h6:=ok9 _ _ _ _)
end
end
section
theorem Tr.put_eq (T:Tr)(o:ag):T.put o=({ T with at_:=((jB T.at_ T.ca T.made T.cm).put o).1.at_,ca:=((jB T.at_ T.ca T.made T.cm).put o).1.ca,made:=((jB T.at_ T.ca T.made T.cm).put o).1.made,cm:=((jB T.at_ T.ca T.made T.cm).put o).1.cm},((jB T.at_ T.ca T.made T.cm).put o).2):=by
 have e:T.bT o=(jB T.at_ T.ca T.made T.cm).bT o:=rfl;have e2:T.o_ o=(jB T.at_ T.ca T.made T.cm).o_ o:=rfl;unfold Tr.put;rw[e]
 by_cases h:(jB T.at_ T.ca T.made T.cm).bT o=true
 .rw[if_pos h,if_pos h]
 .rw[if_neg h,if_neg h,e2]
theorem Tr.tf (T:Tr)(o:ag):(T.put o).1.bx=T.bx/\(T.put o).1.ma=T.ma/\(T.put o).1.mm=T.mm:=by rw[Tr.put_eq];exact⟨rfl,rfl,rfl⟩
theorem Mh {T:Tr}(hs:T.sep)(hw1:MM.wf T.at_ T.ca)(Mg:MM.wf T.made T.cm)(o:ag)(k:Nat):aH Tryz.prog tree_Tree_put.f [.ptr T.bx 0,.agg o.cells] T.hp k 2 (bl (T.put o).2) (T.put o).1.hp:=by
 have h:=SB.lR [T.bx,T.ma,T.mm] (Mf T.at_ T.ca T.made T.cm hw1 Mg o) (Tr.Of hs) (td _ _ _ _) k;rw[ow] at h;have h2:=ow (T.put o).1 k;obtain⟨n1,n2,n3⟩:=T.tf o;rw[n1,n2,n3] at h2;have e:=T.put_eq o;simp only[SV.aN,SV.aC,ag.aq] at h;rw[<- h2];rw[e];exact h
theorem Tr.Gh {T:Tr}(hw1:MM.wf T.at_ T.ca)(Mg:MM.wf T.made T.cm)(o:ag):MM.wf (T.put o).1.at_ (T.put o).1.ca/\MM.wf (T.put o).1.made (T.put o).1.cm:=by
 unfold Tr.put
 split
 .exact⟨hw1,Mg⟩
 .exact⟨MM.gx hw1 _ _,MM.gx Mg _ _⟩
structure mI (b a m:Nat) where
 T:Tr
 e1:T.bx=b
 e2:T.ma=a
 e3:T.mm=m
def mI.step {b a m:Nat}(s:mI b a m)(o:ag):mI b a m×Bool:=(⟨(s.T.put o).1,(s.T.tf o).1.trans s.e1,(s.T.tf o).2.1.trans s.e2,(s.T.tf o).2.2.trans s.e3⟩,(s.T.put o).2)
theorem Jx {b a m:Nat}(h1:a≠b)(h2:m≠b)(h3:a≠m)(B:Nat):
  yc Tryz.prog 123 [.ptr b 0] [] (λ s:mI b a m=>s.T.hp) mI.step 2 (λ _ s=>MM.wf s.T.at_ s.T.ca/\MM.wf s.T.made s.T.cm) (λ _=>True) B where
 nd s:=Tr.nd ⟨by rw[s.e1,s.e2];exact h1,by rw[s.e1,s.e3];exact h2,by rw[s.e2,s.e3];exact h3⟩
 nm s x:=by
  obtain⟨n1,n2,n3⟩:=s.T.tf x;show((s.T.put x).1.hp).map (·.1)=s.T.hp.map (·.1);rw[Tr.names,Tr.names,n1,n2,n3]
 nx i s x hI _ _:=Tr.Gh hI.1 hI.2 x
 ok s x q h:=by
  obtain⟨n1,n2,n3⟩:=s.T.tf x;simp only[Hp.ok,List.all_eq_true,Bool.and_eq_true] at h;have hm:∀ n,n∈s.T.hp.map (·.1)->q n=true:=λ n hn=>by
   obtain⟨y,hy,rfl⟩:=List.mem_map.1 hn;exact(h y hy).1
  rw[Tr.names] at hm;exact Tr.O9 (by rw[show(s.step x).1.T.bx=s.T.bx from n1];exact hm _ (by simp)) (by rw[show(s.step x).1.T.ma=s.T.ma from n2];exact hm _ (by simp)) (by rw[show(s.step x).1.T.mm=s.T.mm from n3];exact hm _ (by simp))
 call i s x k hI _ _ _:=by
  have:=Mh (T:=s.T) ⟨by rw[s.e1,s.e2];exact h1,by rw[s.e1,s.e3];exact h2,by rw[s.e2,s.e3];exact h3⟩ hI.1 hI.2 x k;rw[s.e1] at this;exact this
 a1 s q h:=by
  simp only[Hp.ok,List.all_eq_true,Bool.and_eq_true] at h;have:=(h (s.T.bx,_) (kV s.T.Lb)).1;rw[s.e1] at this;exact⟨by simp only[SV.ax,SV.ok,Bool.and_true];exact this,rfl⟩
structure On where
 L:MM Dt Int
 c:Nat
def On.hp (b m:Nat)(s:On):Hp:=[(b,.box 114 [.mp m]),(m,.map (au Dt.cells iv s.L) s.c)]
def On.cnt (s:On)(d:Dt):Int:=(MM.get s.L d).getD 0
def On.step (s:On)(o:ag):On×Bool:=(⟨MM.put s.L s.c o.dot (s.cnt o.dot+1),MM.jy s.L s.c o.dot⟩,decide (s.cnt o.dot+1>1) || decide (o.kind>1))
section
attribute [local irreducible] SW RW aH SC aj ak
set_option maxHeartbeats 1000000 in
theorem Jy (s:On)(hw:MM.wf s.L s.c)(o:ag)(hb:0<=s.cnt o.dot/\s.cnt o.dot<1000000000):SB Tryz.prog tree_New_1.f [.agg o.cells,.ptr 0 0] [(0,.box 114 [.mp 1]),(1,.map (au Dt.cells iv s.L) s.c)] 2 1
  (λ r F'=>r=bl (s.step o).2/\F'=[(0,.box 114 [.mp 1]),(1,.map (au Dt.cells iv (s.step o).1.L) (s.step o).1.c)]):=by
 refine tree_New_1.enter (by simp[SV.ax,SV.ok]) (by simp[Hp.ok,Ob.ok,SV.ax,SV.ok,bL]) (by simp) ?_;dsimp only[tree_New_1.s,Co.M,Co.J,Co.H,Co.N,Co.F,Co.B,Co.b8,Co.i6,Co.T,Co.K,Co.E,Co.x,Co.Y,Co.D,Co.S];have fe:=uH (vs:=iv) (kc:=Dt.cells) hw o.dot 0;have e0:(MM.get s.L o.dot).getD 0=s.cnt o.dot:=rfl;have e1:IntKind.i64.wrap (s.cnt o.dot+1)=s.cnt o.dot+1:=wrap_i64 _ (by omega);have e2:(MM.get (MM.put s.L s.c o.dot (s.cnt o.dot+1)) o.dot).getD 0=s.cnt o.dot+1:=by rw[MM.dP,if_pos rfl];rfl
 have e3:decide ((o.kind:Int)>1)=decide (o.kind>1):=by rw[Bool.eq_iff_iff];simp only[decide_eq_true_eq];omega
 refine SW.seq (SW.g0 ib Zm aa ?_);refine SW.cut (stM:=⟨[(2,.ptr 2 0),(1,.ptr 0 0)],[(2,.box 43 o.cells),(0,.box 114 [.mp 1]),(1,.map (au Dt.cells iv (s.step o).1.L) (s.step o).1.c)],3⟩) id (SW.tree Zm ?_) ?_
 .have e3':(MM.get (MM.yR s.L s.c o.dot 0) o.dot).getD 0=s.cnt o.dot:=by
   unfold MM.yR On.cnt;cases hh:MM.idx s.L o.dot with
   | none=>
    have h1:=MM.lp.1 hh;have h2:s.L.find? (λ x=>decide (o.dot=x.2.1))=none:=by
     unfold MM.get at h1
     simpa using h1
    rw[h1];simp[MM.get,List.find?_append,h2]
   | some i=>rfl
  repeat' (first
   | refine xZ.s1 _ (h1:= ?_)
   | refine xZ.s2 _ _ (h1:= ?_) (h2:= ?_)
   | refine xZ.s3 _ _ _ (h1:= ?_) (h2:= ?_) (h3:= ?_)
   | refine Oa.mk (Zq fe (Zq e0 (Zq e1 e3'))) (h:=?_))
  all_goals (refine xZ.done (by kernel_rfl) (aG.same (by simp) (by simp[aJ,List.lookup,SV.aC,SV.ok]) (by simp[Hp.ok,Ob.ok,SV.ax,SV.ok,bL]) (λ x hx=> ?_)))
  all_goals (simp only[List.mem_cons,List.not_mem_nil,or_false] at hx;rcases hx with rfl|rfl|rfl<;>rfl)
 have hE:∀ b,(s.step o).2=b->∀ env:List (Nat×SV),env.lookup 3=some (bl b)->Sl.Fin 2 1 tree_New_1.rv (λ r F'=>r=bl (s.step o).2/\F'=[(0,.box 114 [.mp 1]),(1,.map (au Dt.cells iv (s.step o).1.L) (s.step o).1.c)]) ⟨env,[(2,.box 43 o.cells),(0,.box 114 [.mp 1]),(1,.map (au Dt.cells iv (s.step o).1.L) (s.step o).1.c)],3⟩:=λ b hb env he=>
  End.mk (ss:=[bl b]) (ob:=True) [(0,.box 114 [.mp 1]),(1,.map (au Dt.cells iv (s.step o).1.L) (s.step o).1.c)] (h1:=by simp[tree_New_1.rv,Fb,he]) (h2:=trivial) (h3:=by repeat (first|exact HSub.nil _|refine HSub.cons (by rfl) ?_)) (h4:=⟨by rw[hb];rfl,rfl⟩) (h5:=rfl) (h6:=by simp[Hp.ok,Ob.ok,SV.ax,SV.ok,bL])
 have e5:(MM.get (s.step o).1.L o.dot).getD 0=s.cnt o.dot+1:=e2;rcases(Bool.eq_false_or_eq_true (decide (s.cnt o.dot+1>1))).symm with h1|h1
 .have er:(s.step o).2=decide (o.kind>1):=by unfold On.step;rw[h1];rfl
  (repeat (first|refine SW.seq ?_|refine SW.block ?_|refine SW.g0 ib Zm (Zq e5 (Zq e3 h1)) ?_|refine SW.skip ?_|refine SW.exit ?_|refine SW.ret ?_|refine SW.ai rfl ?_|refine SW.an rfl ?_));exact hE _ er _ rfl
 .have er:(s.step o).2=true:=by unfold On.step;rw[h1];rfl
  (repeat (first|refine SW.seq ?_|refine SW.block ?_|refine SW.g0 ib Zm (Zq e5 (Zq e3 h1)) ?_|refine SW.skip ?_|refine SW.exit ?_|refine SW.ret ?_|refine SW.ai rfl ?_|refine SW.an rfl ?_));exact hE _ er _ rfl
end
theorem On.names (b m:Nat)(s:On):(s.hp b m).map (·.1)=[b,m]:=rfl
theorem Jz {b m:Nat}(h1:m≠b)(s:On)(hw:MM.wf s.L s.c)(o:ag)(hb:0<=s.cnt o.dot/\s.cnt o.dot<1000000000)(k:Nat):aH Tryz.prog tree_New_1.f [.agg o.cells,.ptr b 0] (s.hp b m) k 1 (bl (s.step o).2) ((s.step o).1.hp b m):=by
 have h:=SB.lR [b,m] (Jy s hw o hb) (by simp;exact Ne.symm h1) (λ i hi=>by
  rcases(show i=0\/i=1 by simp at hi;omega) with rfl|rfl<;>simp[af]) k
 simp only[SV.aN,SV.aC,ag.aq,Hp.aC,List.map_cons,List.map_nil,Ob.aC,fc] at h;exact h
theorem Gi {b m:Nat}(h1:m≠b):
  yc Tryz.prog 122 [] [.ptr b 0] (On.hp b m) On.step 1 (λ i s=>MM.wf s.L s.c/\∀ d,0<=s.cnt d/\s.cnt d<=(i:Int)) (λ _=>True) 1000000000 where
 nd s:=by rw[On.names];simp;exact Ne.symm h1
 nm s x:=rfl
 nx i s x hI _ hi:=by
  refine⟨MM.gx hI.1 _ _,λ d=> ?_⟩;have hx:=hI.2 x.dot;show 0<=(MM.get (MM.put s.L s.c x.dot (s.cnt x.dot+1)) d).getD 0/\(MM.get (MM.put s.L s.c x.dot (s.cnt x.dot+1)) d).getD 0<=((i+1:Nat):Int);rw[MM.dP]
  split
  .simp only[Option.getD_some];omega
  .have:=hI.2 d
   unfold On.cnt at this;omega
 ok s x q h:=by
  simp only[Hp.ok,On.hp,List.all_cons,List.all_nil,Ob.ok,SV.ax,SV.ok,bL,Bool.and_true] at h ⊢;exact h
 call i s x k hI _ hi _:=Jz h1 s hI.1 x (by have:=hI.2 x.dot;omega) k
 a1 s q h:=by
  simp only[Hp.ok,On.hp,List.all_cons,List.all_nil,Ob.ok,SV.ax,SV.ok,bL,Bool.and_true,Bool.and_eq_true] at h ⊢;exact⟨trivial,h.1.1⟩
end
section
abbrev TS:=mI 2 0 1
def Mi:TS:=⟨⟨2,0,1,[],0,[],0⟩,rfl,rfl,rfl⟩
def grow:Nat->TS->List ag->TS
 | 0,s,W=>s
 | f+1,s,W=>if (bK mI.step s W).1.length<W.length then grow f (bK mI.step s W).2 (bK mI.step s W).1 else (bK mI.step s W).2
theorem ye:∀ (f g:Nat) (s:TS) (W:List ag),W.length<f->W.length<g->grow f s W=grow g s W
 | 0,g,s,W,h,_=>by omega
 | f+1,0,s,W,_,h=>by omega
 | f+1,g+1,s,W,h1,h2=>by
  simp only[grow]
  split
  .exact ye f g _ _ (by omega) (by omega)
  .rfl
theorem D8 {s:TS}{W:List ag}(h:(bK mI.step s W).1.length<W.length):grow (W.length+1) s W=grow ((bK mI.step s W).1.length+1) (bK mI.step s W).2 (bK mI.step s W).1:=by
 rw[show grow (W.length+1) s W=grow W.length (bK mI.step s W).2 (bK mI.step s W).1 by simp only[grow];rw[if_pos h]];exact ye _ _ _ _ h (Nat.lt_succ_self _)
theorem Gj {s:TS}{W:List ag}(h: ¬ (bK mI.step s W).1.length<W.length):grow (W.length+1) s W=(bK mI.step s W).2:=by
 simp only[grow];rw[if_neg h]
def firsts (l:List ag):List ag:=(bK On.step ⟨[],0⟩ l).1
def bg (l:List ag):Tr:=(grow ((firsts l).length+1) Mi (firsts l)).T
theorem mI.sep (s:mI 2 0 1):s.T.sep:=⟨by rw[s.e1,s.e2];decide,by rw[s.e1,s.e3];decide,by rw[s.e2,s.e3];decide⟩
theorem mI.lt (s:mI 2 0 1){k:Nat}(h:3<=k):s.T.lt k:=⟨by rw[s.e1];omega,by rw[s.e2];omega,by rw[s.e3];omega⟩
def mI.wf (s:mI 2 0 1):Prop:=MM.wf s.T.at_ s.T.ca/\MM.wf s.T.made s.T.cm
theorem Mj:Mi.wf:=⟨MM.lu,MM.lu⟩
theorem De:∀ (W:List ag) (s:TS),s.wf->(bK mI.step s W).2.wf
 | [],s,h=>h
 | x::W,s,h=>De W _ (Tr.Gh h.1 h.2 x)
theorem Mk:Mi.T.hp=[(2,.box 166 [.mp 0,.mp 1]),(0,.map [] 0),(1,.map [] 0)]:=rfl
section
attribute [local irreducible] SW RW aH SC aj ak Tr.hp
set_option maxHeartbeats 4000000 in
theorem Ml (l:List ag)(hl:l.length<1000000000):SB Tryz.prog tree_New.f [ops l] [] 0 7 (λ r F'=>r= .ptr 2 0/\F'=(bg l).hp):=by
 refine tree_New.enter (by first|rfl|simp[SV.ok,SV.ax]) (by first|rfl|simp[Hp.ok,Ob.ok,SV.ok,SV.ax,ay.ah]) (by simp) ?_;dsimp only[tree_New.s,Co.M,Co.J,Co.F,Co.B,Co.L,Co.P,Co.Q,Co.x,Co.W,Co.V,Co.S];have spl1:∀ (x y:SV),b_ [x] 0 [y]=[y]:=λ _ _=>rfl
 have splm:∀ (x y a b:SV),b_ (b_ [x,y] 0 [a]) 1 [b]=[a,b]:=λ _ _ _ _=>rfl
 refine SW.seq (SW.g0 dt Zm aa ?_);refine SW.seq (SW.g0 dt Zm splm ?_);refine SW.seq (SW.g0 dt Zm spl1 ?_);have ho:(On.hp 4 3 ⟨[],0⟩)=[(4,.box 114 [.mp 3]),(3,.map [] 0)]:=rfl;have h0:mD (On.hp 4 3) 6 7 ⟨[],0⟩ ⟨[],0⟩:=⟨rfl,by decide,by rw[ho];rfl⟩;have cD:=vR (Gi (b:=4) (m:=3) (by omega)) l ⟨[],0⟩ hl (Nat.le_of_lt hl) (λ _ _=>trivial) ⟨MM.lu,λ d=>by simp[On.cnt,MM.get]⟩ 6 7 (by omega) h0 (by decide);obtain⟨s1,hs1⟩:∃ s1,(bK On.step ⟨[],0⟩ l).2=s1:=⟨_,rfl⟩;have hf:(bK On.step ⟨[],0⟩ l).1=firsts l:=rfl;rw[hs1,hf] at cD
 have cD:aH Tryz.prog slices_DeleteFunc_Lapi_Op_api_Op.f [.gs 6 l.length,.fn (.func 122) [] [.ptr 4 0]] [(6,.arr 43 29 l.length (jT l)),(4,.box 114 [.mp 3]),(3,.map [] 0)] 7 (l.length*1+l.length*(1+1)) (.gs 6 (firsts l).length)
   [(6,.arr 43 29 (firsts l).length (jT (firsts l))),(4,.box 114 [.mp 3]),(3,.map (au Dt.cells iv s1.L) s1.c)]:=cD
 refine SW.seq (SW.g2 dt Zm aa (F8 l hl 5) cD ?_);obtain⟨K,hK,hK7⟩:∃ K,7+(l.length*1+l.length*(1+1))=K/\7<=K:=⟨_,rfl,by omega⟩;rw[hK];have hlen:(firsts l).length<=l.length:=qa On.step l ⟨[],0⟩;refine SW.weak id (st1:=⟨[(3,.ptr 2 0),(5,.gs 6 (firsts l).length)],(6,.arr 43 29 (firsts l).length (jT (firsts l)))::Mi.T.hp,K⟩) (aG.same (by simp) (by simp[aJ,List.lookup,SV.aC,SV.ok];omega) (aA (by simp;omega) (SV.aW _) (Tr.tY (Mi.lt (by show 3<=K;omega)))) (λ x hx=> ?_)) ?_
 .rcases List.mem_cons.1 hx with rfl|hx
  .rfl
  .rw[Mk] at hx
   simp only[List.mem_cons,List.not_mem_nil,or_false] at hx;rcases hx with rfl|rfl|rfl<;>rfl
 refine SW.seq (SW.seq (SW.g0 dt Zm aa ?_));refine SW.block ?_
 let Inv:Bool->List ag->TS->Prop:=λ b W s=>W.length<=l.length/\s.wf/\(if b then grow (W.length+1) s W else s).T=bg l
 have hok:∀ (W:List ag) (s:TS) (k:Nat),7<=k->Hp.ok (λ n=>decide (n<k)) ((6,.arr 43 29 W.length (jT W))::s.T.hp)=true:=λ W s k hk=>aA (by simp;omega) (SV.aW _) (Tr.tY (s.lt (by omega)))
 have h6:∀ s:TS,lk s.T.hp 6=none:=λ s=>Tr.QA (s.lt (Nat.le_refl 3)) (by omega)
 have oM:∀ (W:List ag) (s:TS),(((6,Ob.arr 43 29 W.length (jT W))::s.T.hp:Hp).map (·.1)).Nodup:=λ W s=>rU (h6 s) (Tr.nd s.sep)
 refine SW.loop (α:={x:Bool×List ag×TS×Nat // Inv x.1 x.2.1 x.2.2.1/\7<=x.2.2.2}) (λ x=>⟨[(6,bl x.1.1),(3,.ptr 2 0),(5,.gs 6 x.1.2.1.length)],(6,.arr 43 29 x.1.2.1.length (jT x.1.2.1))::x.1.2.2.1.T.hp,x.1.2.2.2⟩) (λ x=>2*x.1.2.1.length+(if x.1.1 then 1 else 0))
  ⟨(true,firsts l,Mi,K),⟨hlen,Mj,rfl⟩,hK7⟩ id ?_ ?_
 .exact aG.same (by simp) (by simp[aJ,List.lookup,SV.aC,SV.ok];omega) (hok _ _ _ hK7) (aI (oM _ _))
 rintro⟨⟨b,W,s,k⟩,⟨hW,hwf,hfin⟩,hk7⟩;dsimp only at hW hwf hfin hk7 ⊢;cases b with
 | false=>
  refine SW.seq (SW.seq (SW.g0 dt Zm aa ?_));refine SW.an rfl (SW.exit ?_);refine(?_:Sl.SW _ _ _ _ _ _);refine SW.seq (SW.g0 dt Zm aa ?_);refine SW.ret ?_;have hfin:s.T=bg l:=hfin;rw[<- hfin];exact End.mk s.T.hp (h3:=lI (h6 s) λ _ _ h=>h) (h4:=⟨rfl,rfl⟩) (h6:=Tr.tY (s.lt (by omega))) (h7:=by simpa using hk7)
 | true=>
  have hfin:(grow (W.length+1) s W).T=bg l:=hfin;have hH:mD (λ s:TS=>s.T.hp) 6 k s s:=⟨rfl,Tr.tY (s.lt (by omega)),h6 s⟩;have cP:=vR (Jx (b:=2) (a:=0) (m:=1) (by omega) (by omega) (by omega) 1000000000) W s (by omega) (by omega) (λ _ _=>trivial) hwf 6 k (by omega) hH (Tr.cl s.sep);have hwf':=De W s hwf;have hkl:=qa mI.step W s;have hmore:=D8 (s:=s) (W:=W);have hend:=Gj (s:=s) (W:=W);obtain⟨W',hW'⟩:∃ W',(bK mI.step s W).1=W':=⟨_,rfl⟩;obtain⟨s',hs'⟩:∃ s',(bK mI.step s W).2=s':=⟨_,rfl⟩;rw[hW',hs'] at cP hmore hend;rw[hW'] at hkl;rw[hs'] at hwf';have hm:de (dg ((6,Ob.arr 43 29 W.length (jT W))::s.T.hp) ((6,Ob.arr 43 29 W'.length (jT W'))::s'.T.hp) s.T.hp) s'.T.hp=(6,Ob.arr 43 29 W.length (jT W))::s'.T.hp:=
   s9 (by rw[Tr.names,Tr.names,s.e1,s.e2,s.e3,s'.e1,s'.e2,s'.e3]) (oM W s)
  refine SW.seq (SW.seq (SW.g0 dt Zm aa ?_));refine SW.ai rfl (SW.skip ?_);refine(?_:Sl.SW _ _ _ _ _ _);refine SW.block (SW.seq (SW.g0 dt Zm aa ?_));refine SW.seq ?_
  (refine SW.di dt Zm ?_;(repeat (first|refine RW.ro hm (h:=?_)|refine RW.skip (h:=?_)|refine RW.op hm (h:=?_)|refine RW.dV hm (h:=?_)|refine RW.br (h:=?_)|(refine RW.bC (h:=?_);(first|refine aj.mk (hm) (hs:=(λ _ _ h=>h)) (hc:=cP) (h:=?_)))));refine RW.nil ⟨by kernel_rfl,ak.mk (h:=?_)⟩)
  have e1:decide ((W'.length:Int)<(W.length:Int))=decide (W'.length<W.length):=by rw[Bool.eq_iff_iff];simp only[decide_eq_true_eq];omega
  refine SW.g0 dt Zm e1 ?_;refine⟨⟨(decide (W'.length<W.length),W',s',k+(W.length*2+W.length*(2+1))),⟨by show W'.length<=l.length;omega,hwf',?_⟩,by show 7<=k+_;omega⟩,id,?_,aG.same (by simp) (by simp[aJ,List.lookup,SV.aC,SV.ok];omega) (hok W' s' _ (by show 7<=k+_;omega)) (aI (oM W' s'))⟩
  .rw[<- hfin]
   by_cases h:W'.length<W.length
   .rw[decide_eq_true h,hmore h];rfl
   .rw[decide_eq_false h,hend h];rfl
  .show 2*W'.length+(if decide (W'.length<W.length)=true then 1 else 0)<2*W.length+(if true=true then 1 else 0)
   by_cases h:W'.length<W.length
   .simp[h]<;>omega
   .simp[h]<;>omega
end
def Tr.sh (T:Tr)(k:Nat):Tr:={ T with bx:=k+T.bx,ma:=k+T.ma,mm:=k+T.mm}
theorem Tr.Og (T:Tr)(k:Nat):T.hp.aC (eu [] k)=(T.sh k).hp:=by
 simp only[Tr.hp,Hp.aC,List.map_cons,List.map_nil,Ob.aC,SV.aN,SV.aC,j5,cG,Tr.sh,eu,List.getElem?_nil,List.length_nil,Nat.sub_zero,Nat.add_comm]
def jO (l:List ag)(k:Nat):Tr:=(bg l).sh k
theorem Mm (l:List ag)(hl:l.length<1000000000)(k:Nat):aH Tryz.prog tree_New.f [ops l] [] k 7 (.ptr (jO l k).bx 0) (jO l k).hp:=by
 have h:=SB.new (Ml l hl) k;rw[Tr.Og] at h;have e:(bg l).bx=2:=(grow ((firsts l).length+1) Mi (firsts l)).e1;have e2:(jO l k).bx=k+2:=by show k+(bg l).bx=_;rw[e]
 rw[e2];simp only[SV.aC,eu,List.getElem?_nil,List.length_nil,Nat.sub_zero] at h;rw[Nat.add_comm k 2];exact h
end
section
def l9 (o:ag)(c:Cr):Bool:=((!y8 o.bn c.bn || ((o.to:Int) == 0)) || decide ((o.depth:Int)>=c.depth)) || decide ((o.cap:Int)>c.cap)
def gH (l:List ag)(g:Cr×Bool)(o:ag):Bool:=(!g.2 || !decide (g.1.aK=o.aK)) || !((a_ l o.aP).getD ag.zero).before o
def fQ (l:List ag)(g:Cr×Bool)(o:ag):Cr×Nat:=
 if o.kind≠1 then (Cr.zero,2) else (g.1,if gH l g o then 272 else if g.1.hold≠o.who then 273 else if hasB g.1.bn 1=false then 274 else if l9 o g.1 then 275 else 0)
def eB (l:List ag):Nat->Dt->Cr×Bool
 | 0,_=>(Cr.zero,false)
 | m +1,d=>match a_ l d with
  | none=>(Cr.zero,false)
  | some o=>if o.kind=0 then (⟨d,d,⟨0,0⟩,o.who,7,8,1099511627776,0⟩,decide (o.aK=d)) else
   if (fQ l (eB l m o.aP) o).2≠0 then (Cr.zero,false) else (⟨d,o.aK,o.aP,o.to,o.bn,o.depth,o.cap,IntKind.i64.wrap ((fQ l (eB l m o.aP) o).1.level+1)⟩,true)
section
attribute [local irreducible] SW RW aH SC aj ak eB
variable {l:List ag} (hlen:l.length<4611686018427387904) (hl:∀ x,x∈l->x.bn<256)
include hlen hl
end
end
section
section
attribute [local irreducible] SW RW aH SC aj ak eB fQ
variable {l:List ag} (hlen:l.length<4611686018427387904) (hl:∀ x,x∈l->x.bn<256)
include hlen hl
end
section
variable {l:List ag} (hlen:l.length<4611686018427387904) (hl:∀ x,x∈l->x.bn<256)
include hlen hl
end
end
end Go.Proofs.YtaelhkkjgfobhaaGreat
