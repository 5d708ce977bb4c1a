/-
 Trees of credentials: what stands below them: orders of dots, what vectors cover, what is found in rows.
-/
import Derived.Test.YtaelhkkjgfobhaaGreatT6
import Derived.Test.YtaelhkkjgfobhaaGreatTV
set_option linter.unusedSectionVars false
set_option linter.unusedVariables false
set_option linter.unusedSimpArgs false
namespace Go.Proofs.YtaelhkkjgfobhaaGreat
open Go.Sl Go.Proofs
section
attribute [local irreducible] SW RW aF SC ai ak
def iX (a b:Int):Int:=if a<b then -1 else if a>b then 1 else 0
theorem LH (r n:Int):Go.Sl.Pure Tryz.prog dot_May.f [.agg [.d (.int .u8 r),.d (.int .u32 n)]] (bl (decide (r<8) && decide (n>0))):=by
 refine dot_May.enter (by first|rfl|simp[SV.ok,SV.au]) (by first|rfl|simp[Hp.ok,Ob.ok,SV.ok,SV.au,aB.aj]) (by simp) ?_;dsimp only[dot_May.s,Co.M,Co.J,Co.H,Co.F,Co.B,Co.b8,Co.ay,Co.T,Co.x,Co.U,Co.D,Co.S];rcases h1:decide (r<8) with _|_
 ·(repeat (first|refine SW.seq ?_|refine SW.block ?_|refine SW.g0 eJ Zm h1 ?_|refine SW.skip ?_|refine SW.exit ?_|refine SW.ret ?_|refine SW.an rfl ?_|refine SW.ah rfl ?_))
  exact End.mk [] (h4:=⟨rfl,rfl⟩)
 ·(repeat (first|refine SW.seq ?_|refine SW.block ?_|refine SW.g0 eJ Zm h1 ?_|refine SW.skip ?_|refine SW.exit ?_|refine SW.ret ?_|refine SW.an rfl ?_|refine SW.ah rfl ?_))
  exact End.mk [] (h4:=⟨rfl,rfl⟩)
theorem IF (r n:Int):Go.Sl.Pure Tryz.prog ref03_May.f [.agg [.d (.int .u8 r),.d (.int .u32 n)]] (bl (decide (r<=7) && decide (n>=1))):=by
 refine ref03_May.enter (by first|rfl|simp[SV.ok,SV.au]) (by first|rfl|simp[Hp.ok,Ob.ok,SV.ok,SV.au,aB.aj]) (by simp) ?_;dsimp only[ref03_May.s,Co.M,Co.J,Co.H,Co.F,Co.B,Co.b8,Co.ay,Co.T,Co.x,Co.U,Co.D,Co.S];rcases h1:decide (r<=7) with _|_
 ·(repeat (first|refine SW.seq ?_|refine SW.block ?_|refine SW.g0 eJ Zm h1 ?_|refine SW.skip ?_|refine SW.exit ?_|refine SW.ret ?_|refine SW.an rfl ?_|refine SW.ah rfl ?_))
  exact End.mk [] (h4:=⟨rfl,rfl⟩)
 ·(repeat (first|refine SW.seq ?_|refine SW.block ?_|refine SW.g0 eJ Zm h1 ?_|refine SW.skip ?_|refine SW.exit ?_|refine SW.ret ?_|refine SW.an rfl ?_|refine SW.ah rfl ?_))
  exact End.mk [] (h4:=⟨rfl,rfl⟩)
theorem vb (d:Dt)(k:Nat):aF Tryz.prog dot_May.f [.agg d.cells] [] k 0 (bl d.may) []:=by
 have:=(LH d.r d.n).sc rfl k;have e:d.may=(decide ((d.r:Int)<8) && decide ((d.n:Int)>0)):=by
  unfold Dt.may;rw[Bool.eq_iff_iff];simp only[Bool.and_eq_true,decide_eq_true_eq];omega
 rw[e];exact this
theorem ue (d:Dt)(k:Nat):aF Tryz.prog ref03_May.f [.agg d.cells] [] k 0 (bl d.may) []:=by
 have:=(IF d.r d.n).sc rfl k;have e:d.may=(decide ((d.r:Int)<=7) && decide ((d.n:Int)>=1)):=by
  unfold Dt.may;rw[Bool.eq_iff_iff];simp only[Bool.and_eq_true,decide_eq_true_eq];omega
 rw[e];exact this
theorem CP (v:aB)(d:Dt):Go.Sl.Pure Tryz.prog vector_Covers.f [.agg v.cells,.agg d.cells] (bl (v.jF d)):=by
 refine vector_Covers.enter (by first|rfl|simp[SV.ok,SV.au]) (by first|rfl|simp[Hp.ok,Ob.ok,SV.ok,SV.au,aB.aj]) (by simp) ?_;dsimp only[vector_Covers.s,Co.M,Co.J,Co.H,Co.F,Co.B,Co.K,Co.P,Co.x,Co.U,Co.S];rcases h:d.may with _|_
 ·(repeat (first|refine SW.seq ?_|refine SW.block ?_|(refine SW.bG eg Zm ?_;(repeat (first|refine RW.ro h (h:=?_)|refine RW.skip (h:=?_)|refine RW.op h (h:=?_)|refine RW.di h (h:=?_)|refine RW.aR (h:=?_)|(refine RW.aW (h:=?_);(first|refine ai.mk (h) (hc:=vb _ _) (h:=?_)|refine ai.mk (h) (hc:=ue _ _) (h:=?_)))));refine RW.nil ⟨by kernel_rfl,ak.mk (h:=?_)⟩)|refine SW.skip ?_|refine SW.exit ?_|refine SW.ret ?_|refine SW.an rfl ?_|refine SW.ah rfl ?_))
  have e:v.jF d=false:=by unfold aB.jF;rw[h];rfl
  exact End.mk [] (h4:=⟨by rw[e];rfl,rfl⟩)
 .have hr:d.r<8:=by
   have:=h;simp only[Dt.may,Bool.and_eq_true,decide_eq_true_eq] at this;exact this.1
  have e:v.jF d=decide ((v.get d.r:Int)>=d.n):=by
   unfold aB.jF;rw[h,Bool.true_and,Bool.eq_iff_iff];simp only[decide_eq_true_eq];omega
  (repeat (first|refine SW.seq ?_|refine SW.block ?_|(have fx:=(Zq h (aB.jE v hr));refine SW.bG eg Zm ?_;(repeat (first|refine RW.ro fx (h:=?_)|refine RW.skip (h:=?_)|refine RW.op fx (h:=?_)|refine RW.di fx (h:=?_)|refine RW.aR (h:=?_)|(refine RW.aW (h:=?_);(first|refine ai.mk fx (hc:=vb _ _) (h:=?_)|refine ai.mk fx (hc:=ue _ _) (h:=?_)))));refine RW.nil ⟨by kernel_rfl,ak.mk (h:=?_)⟩)|refine SW.skip ?_|refine SW.exit ?_|refine SW.ret ?_|refine SW.an rfl ?_|refine SW.ah rfl ?_));exact End.mk [] (h4:=⟨by rw[e];rfl,rfl⟩)
theorem A6 (v:aB)(d:Dt):Go.Sl.Pure Tryz.prog ref04_Covers.f [.agg v.cells,.agg d.cells] (bl (v.jF d)):=by
 refine ref04_Covers.enter (by first|rfl|simp[SV.ok,SV.au]) (by first|rfl|simp[Hp.ok,Ob.ok,SV.ok,SV.au,aB.aj]) (by simp) ?_;dsimp only[ref04_Covers.s,Co.M,Co.J,Co.H,Co.F,Co.B,Co.K,Co.P,Co.x,Co.U,Co.S];rcases h:d.may with _|_
 ·(repeat (first|refine SW.seq ?_|refine SW.block ?_|(refine SW.bG eg Zm ?_;(repeat (first|refine RW.ro h (h:=?_)|refine RW.skip (h:=?_)|refine RW.op h (h:=?_)|refine RW.di h (h:=?_)|refine RW.aR (h:=?_)|(refine RW.aW (h:=?_);(first|refine ai.mk (h) (hc:=vb _ _) (h:=?_)|refine ai.mk (h) (hc:=ue _ _) (h:=?_)))));refine RW.nil ⟨by kernel_rfl,ak.mk (h:=?_)⟩)|refine SW.skip ?_|refine SW.exit ?_|refine SW.ret ?_|refine SW.an rfl ?_|refine SW.ah rfl ?_))
  have e:v.jF d=false:=by unfold aB.jF;rw[h];rfl
  exact End.mk [] (h4:=⟨by rw[e];rfl,rfl⟩)
 .have hr:d.r<8:=by
   have:=h;simp only[Dt.may,Bool.and_eq_true,decide_eq_true_eq] at this;exact this.1
  have e:v.jF d=decide ((d.n:Int)<=v.get d.r):=by
   unfold aB.jF;rw[h,Bool.true_and,Bool.eq_iff_iff];simp only[decide_eq_true_eq];omega
  (repeat (first|refine SW.seq ?_|refine SW.block ?_|(have fx:=(Zq h (aB.jE v hr));refine SW.bG eg Zm ?_;(repeat (first|refine RW.ro fx (h:=?_)|refine RW.skip (h:=?_)|refine RW.op fx (h:=?_)|refine RW.di fx (h:=?_)|refine RW.aR (h:=?_)|(refine RW.aW (h:=?_);(first|refine ai.mk fx (hc:=vb _ _) (h:=?_)|refine ai.mk fx (hc:=ue _ _) (h:=?_)))));refine RW.nil ⟨by kernel_rfl,ak.mk (h:=?_)⟩)|refine SW.skip ?_|refine SW.exit ?_|refine SW.ret ?_|refine SW.an rfl ?_|refine SW.ah rfl ?_));exact End.mk [] (h4:=⟨by rw[e];rfl,rfl⟩)
theorem xo (v:aB)(d:Dt)(k:Nat):aF Tryz.prog vector_Covers.f [.agg v.cells,.agg d.cells] [] k 0 (bl (v.jF d)) []:=(CP v d).sc rfl k
theorem vc (v:aB)(d:Dt)(k:Nat):aF Tryz.prog ref04_Covers.f [.agg v.cells,.agg d.cells] [] k 0 (bl (v.jF d)) []:=(A6 v d).sc rfl k
theorem CQ (a b:ag):Go.Sl.Pure Tryz.prog order_Before.f [.agg a.cells,.agg b.cells] (bl (a.before b)):=by
 refine order_Before.enter (by first|rfl|simp[SV.ok,SV.au]) (by first|rfl|simp[Hp.ok,Ob.ok,SV.ok,SV.au,aB.aj]) (by simp) ?_;dsimp only[order_Before.s,Co.M,Co.J,Co.F,Co.B,Co.K,Co.Q,Co.x,Co.D,Co.S];(repeat (first|refine SW.seq ?_|refine SW.block ?_|(refine SW.bG eg Zm ?_;(repeat (first|refine RW.ro af (h:=?_)|refine RW.skip (h:=?_)|refine RW.op af (h:=?_)|refine RW.di af (h:=?_)|refine RW.aR (h:=?_)|(refine RW.aW (h:=?_);(first|refine ai.mk af (hc:=xo _ _ _) (h:=?_)|refine ai.mk af (hc:=vc _ _ _) (h:=?_)))));refine RW.nil ⟨by kernel_rfl,ak.mk (h:=?_)⟩)|refine SW.skip ?_|refine SW.exit ?_|refine SW.ret ?_|refine SW.an rfl ?_|refine SW.ah rfl ?_));exact End.mk [] (h4:=⟨rfl,rfl⟩)
theorem A7 (a b:ag):Go.Sl.Pure Tryz.prog ref10_Before.f [.agg a.cells,.agg b.cells] (bl (a.before b)):=by
 refine ref10_Before.enter (by first|rfl|simp[SV.ok,SV.au]) (by first|rfl|simp[Hp.ok,Ob.ok,SV.ok,SV.au,aB.aj]) (by simp) ?_;dsimp only[ref10_Before.s,Co.M,Co.J,Co.F,Co.B,Co.K,Co.Q,Co.x,Co.D,Co.S];(repeat (first|refine SW.seq ?_|refine SW.block ?_|(refine SW.bG eg Zm ?_;(repeat (first|refine RW.ro af (h:=?_)|refine RW.skip (h:=?_)|refine RW.op af (h:=?_)|refine RW.di af (h:=?_)|refine RW.aR (h:=?_)|(refine RW.aW (h:=?_);(first|refine ai.mk af (hc:=xo _ _ _) (h:=?_)|refine ai.mk af (hc:=vc _ _ _) (h:=?_)))));refine RW.nil ⟨by kernel_rfl,ak.mk (h:=?_)⟩)|refine SW.skip ?_|refine SW.exit ?_|refine SW.ret ?_|refine SW.an rfl ?_|refine SW.ah rfl ?_));exact End.mk [] (h4:=⟨rfl,rfl⟩)
theorem kI (a b:ag)(k:Nat):aF Tryz.prog order_Before.f [.agg a.cells,.agg b.cells] [] k 0 (bl (a.before b)) []:=(CQ a b).sc rfl k
theorem cg (a b:ag)(k:Nat):aF Tryz.prog ref10_Before.f [.agg a.cells,.agg b.cells] [] k 0 (bl (a.before b)) []:=(A7 a b).sc rfl k
end
section
section
attribute [local irreducible] SW RW aF SC ai ak
theorem zD:∀ (x y a b:SV),cq (cq [x,y] 0 [a]) 1 [b]=[a,b]:=λ _ _ _ _=>rfl
theorem IG (l m:List Dt)(hl:l.length<4611686018427387904)(hm:m.length<4611686018427387904):Go.Sl.Pure Tryz.prog ref03_Same.f [bg l,bg m] (bl (decide (l=m))):=by
 refine ref03_Same.enter (by first|rfl|simp[SV.ok,SV.au]) (by first|rfl|simp[Hp.ok,Ob.ok,SV.ok,SV.au,aB.aj]) (by simp) ?_;dsimp only[ref03_Same.s,Co.M,Co.J,Co.F,Co.Z,Co.B,Co.K,Co.L,Co.Y,Co.V,Co.I,Co.S]
 by_cases hn:l.length=m.length
 .have h0:(((l.length:Nat):Int) != ((m.length:Nat):Int))=false:=by simp;omega
  (repeat (first|refine SW.seq ?_|refine SW.block ?_|refine SW.g0 ie Zm h0 ?_|refine SW.skip ?_|refine SW.exit ?_|refine SW.ret ?_|refine SW.an rfl ?_|refine SW.ah rfl ?_));refine SW.lG (α:={i:Nat // i<=l.length/\∀ j,j<i->l[j]? =m[j]?}) (λ i=>⟨[(5,i64 i.1),(0,bg l),(1,bg m)],[],0⟩) (λ i=>l.length - i.1) ⟨0,by omega,by omega⟩ id af (round:= ?_);rintro⟨i,hi,hs⟩
  by_cases h:i<l.length
  .have h1:decide ((i:Int)<l.length)=true:=by simp only[decide_eq_true_eq];omega
   obtain⟨x,hx⟩:=aP h;obtain⟨y,hy⟩:=aP (show i<m.length by omega);have e2:IntKind.i64.wrap ((i:Int)+1)=((i+1:Nat):Int):=wrap_i64 _ (by omega)
   by_cases he:x=y
   .have e3:decide (x=y)=true:=by simp[he]
    (repeat (first|refine SW.seq ?_|refine SW.block ?_|refine SW.g0 ie Zm (Zq h1 (Zq (b_ hx) (Zq (b_ hy) (Zq e2 e3)))) ?_|refine SW.skip ?_|refine SW.exit ?_|refine SW.ret ?_|refine SW.an rfl ?_|refine SW.ah rfl ?_));refine Next.mk ⟨i+1,by omega,λ j hj=> ?_⟩ id af
    by_cases e:j=i
    .rw[e,hx,hy,he]
    .exact hs j (by omega)
   .have e3:decide (x=y)=false:=by simp[he]
    (repeat (first|refine SW.seq ?_|refine SW.block ?_|refine SW.g0 ie Zm (Zq h1 (Zq (b_ hx) (Zq (b_ hy) (Zq e2 e3)))) ?_|refine SW.skip ?_|refine SW.exit ?_|refine SW.ret ?_|refine SW.an rfl ?_|refine SW.ah rfl ?_));have:l≠m:=λ e=>by rw[e,hy] at hx;injection hx with hx;exact he hx.symm
    exact End.mk [] (h4:=⟨by simp[ez,this],rfl⟩)
  .have h1:decide ((i:Int)<l.length)=false:=by simp only[decide_eq_false_iff_not];omega
   (repeat (first|refine SW.seq ?_|refine SW.block ?_|refine SW.g0 ie Zm h1 ?_|refine SW.skip ?_|refine SW.exit ?_|refine SW.ret ?_|refine SW.an rfl ?_|refine SW.ah rfl ?_));have:l=m:=ER hn λ j hj=>hs j (by omega)
   exact End.mk [] (h4:=⟨by simp[ez,this],rfl⟩)
 .have h0:(((l.length:Nat):Int) != ((m.length:Nat):Int))=true:=by simp;omega
  (repeat (first|refine SW.seq ?_|refine SW.block ?_|refine SW.g0 ie Zm h0 ?_|refine SW.skip ?_|refine SW.exit ?_|refine SW.ret ?_|refine SW.an rfl ?_|refine SW.ah rfl ?_));have:l≠m:=λ e=>hn (by rw[e])
  exact End.mk [] (h4:=⟨by simp[ez,this],rfl⟩)
theorem yh (l m:List Dt)(hl:l.length<4611686018427387904)(hm:m.length<4611686018427387904)(k:Nat):aF Tryz.prog ref03_Same.f [bg l,bg m] [] k 0 (bl (decide (l=m))) []:=(IG l m hl hm).sc rfl k
theorem A8 {l:List ag}{d:Dt}{i:Nat}{x:ag}(hx:l[i]? =some x)(h:aJ (l.take i) d=none):aJ (l.take (i+1)) d=if x.dot=d then some x else none:=by
 unfold aJ at*;rw[bt hx,List.find?_append,h]
 by_cases e:x.dot=d<;>simp[e]
theorem CS {l:List ag}{d:Dt}{i:Nat}{x:ag}(hx:l[i]? =some x)(h:aJ (l.take i) d=none)(he:x.dot=d):aJ l d=some x:=by
 unfold aJ at*;have hl:l=l.take i++x::l.drop (i+1):=by
  conv=>lhs;rw[<- List.take_append_drop i l]
  congr 1
  rw[List.drop_eq_getElem_cons (cu hx)]
  congr 1
  rw[List.getElem?_eq_getElem (cu hx)] at hx;injection hx
 rw[hl,List.find?_append,h];simp[he]
theorem n_ {l:List ag}{i:Nat}{x:ag}(h:l[i]? =some x):List.take 2 (List.drop (i*29) (List.map SV.d (l.flatMap ag.ds)))=x.dot.cells:=by
 have:=Iv h (j:=0) (n:=2) (by omega);rw[Nat.add_zero,List.drop_zero] at this;rw[this];rfl
theorem lJ {l:List ag}{i:Nat}{x:ag}(h:l[i]? =some x):(i*29+2<=(List.map SV.d (l.flatMap ag.ds)).length)=True:=eq_true (by
 have:=cu h;rw[List.length_map,jP];omega)
theorem II (l:List ag)(hl:l.length<4611686018427387904)(d:Dt):Go.Sl.Pure Tryz.prog ref10_Find.f [ops l,.agg d.cells] (.de [.agg ((aJ l d).getD ag.zero).cells,bl (aJ l d).isSome]):=by
 refine ref10_Find.enter (by first|rfl|simp[SV.ok,SV.au]) (by first|rfl|simp[Hp.ok,Ob.ok,SV.ok,SV.au,aB.aj]) (by simp) ?_;dsimp only[ref10_Find.s,Co.M,Co.J,Co.F,Co.Z,Co.B,Co.bC,Co.K,Co.L,Co.x,Co.W,Co.Y,Co.V,Co.D,Co.I,Co.S];(repeat (first|refine SW.seq ?_|refine SW.block ?_|refine SW.g0 ix Zm af ?_|refine SW.skip ?_|refine SW.exit ?_|refine SW.ret ?_|refine SW.an rfl ?_|refine SW.ah rfl ?_));refine SW.lG (α:={i:Nat // i<=l.length/\aJ (l.take i) d=none}) (λ i=>⟨[(6,i64 i.1),(0,ops l),(3,.ptr 0 0),(4,.ptr 1 0)],[(1,.box 43 ag.zero.cells),(0,.box 37 d.cells)],2⟩) (λ i=>l.length - i.1) ⟨0,by omega,rfl⟩ id af (round:= ?_);rintro⟨i,hi,hs⟩
 by_cases h:i<l.length
 .have h1:decide ((i:Int)<l.length)=true:=by simp only[decide_eq_true_eq];omega
  obtain⟨x,hx⟩:=aP h;have e2:IntKind.i64.wrap ((i:Int)+1)=((i+1:Nat):Int):=wrap_i64 _ (by omega)
  by_cases he:x.dot=d
  .have e3:decide (x.dot=d)=true:=by simp[he]
   (repeat (first|refine SW.seq ?_|refine SW.block ?_|refine SW.g0 ix Zm (Zq h1 (Zq (n_ hx) (Zq (lJ hx) (Zq (tB hx) (Zq (lD hx) (Zq e2 e3)))))) ?_|refine SW.skip ?_|refine SW.exit ?_|refine SW.ret ?_|refine SW.an rfl ?_|refine SW.ah rfl ?_));have hf:=CS hx hs he;rw[hf];exact End.mk [] (h4:=⟨rfl,rfl⟩)
  .have e3:decide (x.dot=d)=false:=by simp[he]
   (repeat (first|refine SW.seq ?_|refine SW.block ?_|refine SW.g0 ix Zm (Zq h1 (Zq (n_ hx) (Zq (lJ hx) (Zq e2 e3)))) ?_|refine SW.skip ?_|refine SW.exit ?_|refine SW.ret ?_|refine SW.an rfl ?_|refine SW.ah rfl ?_));exact Next.mk ⟨i+1,by omega,by rw[A8 hx hs,if_neg he]⟩ id af
 .have h1:decide ((i:Int)<l.length)=false:=by simp only[decide_eq_false_iff_not];omega
  (repeat (first|refine SW.seq ?_|refine SW.block ?_|refine SW.g0 ix Zm h1 ?_|refine SW.skip ?_|refine SW.exit ?_|refine SW.ret ?_|refine SW.an rfl ?_|refine SW.ah rfl ?_));have hf:aJ l d=none:=by rwa [List.take_of_length_le (by omega)] at hs
  rw[hf];exact End.mk [] (h4:=⟨rfl,rfl⟩)
theorem pO (l:List ag)(hl:l.length<4611686018427387904)(d:Dt)(k:Nat):aF Tryz.prog ref10_Find.f [ops l,.agg d.cells] [] k 0 (.de [.agg ((aJ l d).getD ag.zero).cells,bl (aJ l d).isSome]) []:=(II l hl d).sc rfl k
end
end
section
section
attribute [local irreducible] SW RW aF SC ai ak
def yj (o:ag):Nat:=match o.lines with
 | .sl n _=>n
 | _=>0
def NG (o:ag):Prop:=∃ n cs,o.lines= .sl n cs/\n<=9223372036854775807
def gf (l:List ag):Nat->Int
 | 0=>0
 | i+1=>IntKind.i64.wrap (gf l i+((l[i]?).map yj).getD 0)
def jK (l:List ag):Bool:=decide (l.length>80) || decide (gf l (min l.length 100)>300)
theorem E7 {l:List ag}{i:Nat}{x:ag}(h:l[i]? =some x):(List.map SV.d (l.flatMap ag.ds))[i*29+28]? =some (.d x.lines):=by rw[LD h (by omega)];rfl
theorem E8 (l:List ag)(hl:∀ x,x∈l->NG x)(hlen:l.length<=9223372036854775807):Go.Sl.Pure Tryz.prog ref10_Great.f [ops l] (bl (jK l)):=by
 refine ref10_Great.enter (by first|rfl|simp[SV.ok,SV.au]) (by first|rfl|simp[Hp.ok,Ob.ok,SV.ok,SV.au,aB.aj]) (by simp) ?_;dsimp only[ref10_Great.s,Co.M,Co.G,Co.J,Co.H,Co.F,Co.Z,Co.B,Co.T,Co.L,Co.Y,Co.V,Co.U,Co.D,Co.I,Co.S];(repeat (first|refine SW.seq ?_|refine SW.block ?_|refine SW.g0 kw Zm af ?_|refine SW.skip ?_|refine SW.exit ?_|refine SW.ret ?_|refine SW.an rfl ?_|refine SW.ah rfl ?_));refine SW.lG (α:={i:Nat // i<=l.length/\i<=100}) (λ i=>⟨[(4,i64 i.1),(0,ops l),(3,i64 (gf l i.1))],[],0⟩) (λ i=>100 - i.1) ⟨0,by omega,by omega⟩ id (show gf l 0=0 from rfl) (round:= ?_);rintro⟨i,hi,hi2⟩
 by_cases h:i<l.length
 .have h1:decide ((i:Int)<l.length)=true:=by simp only[decide_eq_true_eq];omega
  by_cases h2:i<100
  .have h3:decide ((i:Int)<100)=true:=by simp only[decide_eq_true_eq];omega
   obtain⟨x,hx⟩:=aP h;obtain⟨n,cs,hx1,hx2⟩:=hl x (List.mem_of_getElem? hx);have e2:IntKind.i64.wrap ((i:Int)+1)=((i+1:Nat):Int):=wrap_i64 _ (by omega);have e3:IntKind.i64.wrap (gf l i+(n:Int))=gf l (i+1):=by simp[gf,hx,yj,hx1]
   (repeat (first|refine SW.seq ?_|refine SW.block ?_|refine SW.g0 kw Zm (Zq h1 (Zq h3 (Zq (E7 hx) (Zq hx1 (Zq e2 e3))))) ?_|refine SW.skip ?_|refine SW.exit ?_|refine SW.ret ?_|refine SW.an rfl ?_|refine SW.ah rfl ?_));exact Next.mk ⟨i+1,by omega,by omega⟩ id af
  .have h3:decide ((i:Int)<100)=false:=by simp only[decide_eq_false_iff_not];omega
   have h4:decide ((l.length:Int)>80)=true:=by simp only[decide_eq_true_eq];omega
   (repeat (first|refine SW.seq ?_|refine SW.block ?_|refine SW.g0 kw Zm (Zq h1 (Zq h3 h4)) ?_|refine SW.skip ?_|refine SW.exit ?_|refine SW.ret ?_|refine SW.an rfl ?_|refine SW.ah rfl ?_));have:jK l=true:=by unfold jK;rw[show decide (l.length>80)=true by simp;omega];rfl
   exact End.mk [] (h4:=⟨by rw[this];rfl,rfl⟩)
 .have h1:decide ((i:Int)<l.length)=false:=by simp only[decide_eq_false_iff_not];omega
  have e:min l.length 100=i:=by omega
  rcases h4:decide ((l.length:Int)>80) with _|_
  ·(repeat (first|refine SW.seq ?_|refine SW.block ?_|refine SW.g0 kw Zm (Zq h1 h4) ?_|refine SW.skip ?_|refine SW.exit ?_|refine SW.ret ?_|refine SW.an rfl ?_|refine SW.ah rfl ?_))
   have:jK l=decide (gf l i>300):=by
    unfold jK;rw[e,show decide (l.length>80)=false by simp at h4 ⊢;omega];rfl
   exact End.mk [] (h4:=⟨by rw[this];rfl,rfl⟩)
  ·(repeat (first|refine SW.seq ?_|refine SW.block ?_|refine SW.g0 kw Zm (Zq h1 h4) ?_|refine SW.skip ?_|refine SW.exit ?_|refine SW.ret ?_|refine SW.an rfl ?_|refine SW.ah rfl ?_))
   have:jK l=true:=by unfold jK;rw[show decide (l.length>80)=true by simp at h4 ⊢;omega];rfl
   exact End.mk [] (h4:=⟨by rw[this];rfl,rfl⟩)
theorem E9 (l:List ag)(hl:∀ x,x∈l->NG x)(hlen:l.length<=9223372036854775807)(k:Nat):aF Tryz.prog ref10_Great.f [ops l] [] k 0 (bl (jK l)) []:=(E8 l hl hlen).sc rfl k
theorem xq {l:List ag}(h:jK l=false):l.length<=80:=by
 unfold jK at h;simp only[Bool.or_eq_false_iff,decide_eq_false_iff_not] at h;omega
def hasB (r b:Nat):Bool:=decide (r / b % 2=1)
theorem LK (r b:Nat)(hr:r<256)(hb:0<b/\b<256):Go.Sl.Pure Tryz.prog ref16_has.f [u8 r,u8 b] (bl (hasB r b)):=by
 refine ref16_has.enter (by first|rfl|simp[SV.ok,SV.au]) (by first|rfl|simp[Hp.ok,Ob.ok,SV.ok,SV.au,aB.aj]) (by simp) ?_;dsimp only[ref16_has.s,Co.M,Co.J,Co.F,Co.B,Co.b8,Co.V,Co.S];have hd:r / b<=r:=Nat.div_le_self r b;have e1:((r:Int).tdiv (b:Int))=((r / b:Nat):Int):=by rw[Int.tdiv_eq_ediv_of_nonneg (Int.natCast_nonneg _)];rfl
 have e4':hasB r b=decide (r / b % 2=1):=rfl;obtain⟨q,hq⟩:∃ q,r / b=q:=⟨_,rfl⟩;rw[hq] at hd e1 e4';have e2:IntKind.u8.wrap (q:Int)=(q:Int):=wrap_u8' _ (by omega);have e3:((q:Int).tmod 2)=((q % 2:Nat):Int):=by rw[Int.tmod_eq_emod_of_nonneg (Int.natCast_nonneg _)];rfl
 have e4:(((q % 2:Nat):Int) == 1)=hasB r b:=by
  rw[e4',Bool.eq_iff_iff];simp only[beq_iff_eq,decide_eq_true_eq];omega
 (repeat (first|refine SW.seq ?_|refine SW.block ?_|refine SW.g0 [0,1,4] Zm (Zq e1 (Zq e2 (Zq e3 e4))) ?_|refine SW.skip ?_|refine SW.exit ?_|refine SW.ret ?_|refine SW.an rfl ?_|refine SW.ah rfl ?_));exact End.mk [] (h4:=⟨rfl,rfl⟩)
theorem gD (r b:Nat)(hr:r<256)(hb:0<b/\b<256)(k:Nat):aF Tryz.prog ref16_has.f [u8 r,u8 b] [] k 0 (bl (hasB r b)) []:=(LK r b hr hb).sc rfl k
def d_ (r o:Nat):Nat->Bool
 | 0=>true
 | i+1=>d_ r o i && (!hasB r (2 ^ i) || hasB o (2 ^ i))
def jm (r o:Nat):Bool:=decide (r≠0) && d_ r o 8
theorem oN {r o i:Nat}(h:d_ r o i=false):∀ j,i<=j->d_ r o j=false
 | 0,hj=>by rw[show i=0 by omega] at h;exact h
 | j+1,hj=>by
  by_cases e:i=j+1
  .rw[<- e];exact h
  .simp only[d_,oN h j (by omega),Bool.false_and]
theorem CT (r o:Nat)(hr:r<256)(ho:o<256):Go.Sl.Pure Tryz.prog ref16_within.f [u8 r,u8 o] (bl (jm r o)):=by
 refine ref16_within.enter (by first|rfl|simp[SV.ok,SV.au]) (by first|rfl|simp[Hp.ok,Ob.ok,SV.ok,SV.au,aB.aj]) (by simp) ?_;dsimp only[ref16_within.s,Co.M,Co.G,Co.J,Co.H,Co.F,Co.C,Co.Z,Co.B,Co.b8,Co.Q,Co.Y,Co.U,Co.S]
 by_cases h0:r=0
 .have e0:((r:Int) == 0)=true:=by simp[h0]
  (repeat (first|refine SW.seq ?_|refine SW.block ?_|refine SW.g0 hY Zm e0 ?_|refine SW.skip ?_|refine SW.exit ?_|refine SW.ret ?_|refine SW.an rfl ?_|refine SW.ah rfl ?_));have:jm r o=false:=by unfold jm;simp[h0]
  exact End.mk [] (h4:=⟨by rw[this];rfl,rfl⟩)
 have e0:((r:Int) == 0)=false:=by simp[h0]
 have eV:jm r o=d_ r o 8:=by unfold jm;simp[h0]
 (repeat (first|refine SW.seq ?_|refine SW.block ?_|refine SW.g0 hY Zm e0 ?_|refine SW.skip ?_|refine SW.exit ?_|refine SW.ret ?_|refine SW.an rfl ?_|refine SW.ah rfl ?_));refine SW.lG (α:={i:Nat // i<=8/\d_ r o i=true}) (λ i=>⟨[(5,i64 ((2 ^ i.1:Nat):Int)),(0,u8 r),(1,u8 o)],[],0⟩) (λ i=>8 - i.1) ⟨0,by omega,rfl⟩ id af (round:= ?_);rintro⟨i,hi,hw⟩
 by_cases h:i<8
 .have hp:0<2 ^ i/\2 ^ i<=128:=⟨Nat.two_pow_pos i,by
   have:=Nat.pow_le_pow_right (show 0<2 by omega) (show i<=7 by omega)
   simpa using this⟩
  have h1:decide ((((2 ^ i:Nat)):Int)<256)=true:=by simp only[decide_eq_true_eq];omega
  have e1:IntKind.u8.wrap ((2 ^ i:Nat):Int)=((2 ^ i:Nat):Int):=wrap_u8' _ (by omega);have e2:IntKind.i64.wrap (2*((2 ^ i:Nat):Int))=((2 ^ (i+1):Nat):Int):=by
   rw[wrap_i64 _ (by omega),Nat.pow_succ];omega
  generalize hg:2 ^ i=g at*;rcases h2:hasB r g with _|_
  ·(repeat (first|refine SW.seq ?_|refine SW.block ?_|(have fx:=(Zq h1 (Zq e1 (Zq e2 h2)));refine SW.bG hY Zm ?_;(repeat (first|refine RW.ro fx (h:=?_)|refine RW.skip (h:=?_)|refine RW.op fx (h:=?_)|refine RW.di fx (h:=?_)|refine RW.aR (h:=?_)|(refine RW.aW (h:=?_);(first|refine ai.mk fx (hc:=gD r _ hr ⟨by omega,by omega⟩ _) (h:=?_)|refine ai.mk fx (hc:=gD o _ ho ⟨by omega,by omega⟩ _) (h:=?_)))));refine RW.nil ⟨by kernel_rfl,ak.mk (h:=?_)⟩)|refine SW.skip ?_|refine SW.exit ?_|refine SW.ret ?_|refine SW.an rfl ?_|refine SW.ah rfl ?_))
   refine Next.mk ⟨i+1,by omega,?_⟩ id af;simp only[d_,hw,hg,h2];rfl
  .rcases h3:hasB o g with _|_
   ·(repeat (first|refine SW.seq ?_|refine SW.block ?_|(have fx:=(Zq h1 (Zq e1 (Zq e2 (Zq h2 h3))));refine SW.bG hY Zm ?_;(repeat (first|refine RW.ro fx (h:=?_)|refine RW.skip (h:=?_)|refine RW.op fx (h:=?_)|refine RW.di fx (h:=?_)|refine RW.aR (h:=?_)|(refine RW.aW (h:=?_);(first|refine ai.mk fx (hc:=gD r _ hr ⟨by omega,by omega⟩ _) (h:=?_)|refine ai.mk fx (hc:=gD o _ ho ⟨by omega,by omega⟩ _) (h:=?_)))));refine RW.nil ⟨by kernel_rfl,ak.mk (h:=?_)⟩)|refine SW.skip ?_|refine SW.exit ?_|refine SW.ret ?_|refine SW.an rfl ?_|refine SW.ah rfl ?_))
    have hf:d_ r o (i+1)=false:=by simp only[d_,hg,h2,h3];simp
    have:jm r o=false:=by rw[eV];exact oN hf 8 (by omega)
    exact End.mk [] (h4:=⟨by rw[this];rfl,rfl⟩)
   ·(repeat (first|refine SW.seq ?_|refine SW.block ?_|(have fx:=(Zq h1 (Zq e1 (Zq e2 (Zq h2 h3))));refine SW.bG hY Zm ?_;(repeat (first|refine RW.ro fx (h:=?_)|refine RW.skip (h:=?_)|refine RW.op fx (h:=?_)|refine RW.di fx (h:=?_)|refine RW.aR (h:=?_)|(refine RW.aW (h:=?_);(first|refine ai.mk fx (hc:=gD r _ hr ⟨by omega,by omega⟩ _) (h:=?_)|refine ai.mk fx (hc:=gD o _ ho ⟨by omega,by omega⟩ _) (h:=?_)))));refine RW.nil ⟨by kernel_rfl,ak.mk (h:=?_)⟩)|refine SW.skip ?_|refine SW.exit ?_|refine SW.ret ?_|refine SW.an rfl ?_|refine SW.ah rfl ?_))
    refine Next.mk ⟨i+1,by omega,?_⟩ id af;simp only[d_,hw,hg,h2,h3];rfl
 .have e:i=8:=by omega
  subst e;have h1:decide ((((2 ^ 8:Nat)):Int)<256)=false:=by decide
  (repeat (first|refine SW.seq ?_|refine SW.block ?_|(refine SW.bG hY Zm ?_;(repeat (first|refine RW.ro h1 (h:=?_)|refine RW.skip (h:=?_)|refine RW.op h1 (h:=?_)|refine RW.di h1 (h:=?_)|refine RW.aR (h:=?_)|(refine RW.aW (h:=?_);(first|refine ai.mk (h1) (hc:=gD r _ hr ⟨by omega,by omega⟩ _) (h:=?_)|refine ai.mk (h1) (hc:=gD o _ ho ⟨by omega,by omega⟩ _) (h:=?_)))));refine RW.nil ⟨by kernel_rfl,ak.mk (h:=?_)⟩)|refine SW.skip ?_|refine SW.exit ?_|refine SW.ret ?_|refine SW.an rfl ?_|refine SW.ah rfl ?_));exact End.mk [] (h4:=⟨by rw[eV,hw];rfl,rfl⟩)
theorem gx (r o:Nat)(hr:r<256)(ho:o<256)(k:Nat):aF Tryz.prog ref16_within.f [u8 r,u8 o] [] k 0 (bl (jm r o)) []:=(CT r o hr ho).sc rfl k
theorem E_ (l:List ag)(hl:l.length<1000000000)(k:Nat):SB Tryz.prog slices_Clone_Lapi_Op_api_Op.f [ops l] [] k 2 (λ r F'=>r= .gs (k+1) l.length/\F'=[(k+1,.arr 43 29 l.length (jO l))]):=by
 refine slices_Clone_Lapi_Op_api_Op.enter (by first|rfl|simp[SV.ok,SV.au]) (by first|rfl|simp[Hp.ok,Ob.ok,SV.ok,SV.au,aB.aj]) (by simp) ?_;dsimp only[slices_Clone_Lapi_Op_api_Op.s,Co.M,Co.J,Co.F,Co.S];refine SW.seq (SW.g0 ip Zm af ?_);refine SW.seq (SW.seq (SW.NC (n:=l.length) (cs:=l.flatMap ag.ds) rfl ?_ λ h0=> ?_))
 .refine SW.ah rfl (SW.skip ?_)
  refine(?_:Sl.SW _ _ _ _ _ _);refine SW.seq ?_;have f1:=bX (show k≠k+1 by omega);refine SW.g0 ip Zm f1 ?_;refine SW.ret ?_;exact End.mk [(k+1,.arr 43 29 l.length (jO l))] (h3:=HSub.cons (by simp[aa]) (HSub.nil _)) (h4:=⟨rfl,rfl⟩) (h5:=by simp[ez,SV.ok]) (h6:=by simp[Hp.ok,Ob.ok,SV.aZ])
 .have hl0:l=[]:=List.eq_nil_of_length_eq_zero h0
  subst hl0;refine SW.an rfl (SW.seq (SW.g0 ip Zm af ?_));refine SW.iN 2 43 29 rfl ?_;refine SW.weak (λ n=>if n=k+1 then k else n) (st1:=⟨[(2,.gs (k+1) 0)],[(k+1,.arr 43 29 0 [])],k+2⟩) ?_ ?_
  .refine⟨by simp,λ n hn=>by simp;omega,?_,?_,?_⟩
   .simp[aL,List.lookup,SV.aC,SV.ok]
   .simp[tS,Ob.aC,Ob.ok,SV.aU,SV.au,lk,List.lookup]
   .simp[EJ]
  refine SW.ret ?_;exact End.mk [(k+1,.arr 43 29 0 [])] (h3:=λ _ _ h=>h) (h4:=⟨rfl,rfl⟩) (h5:=by simp[ez,SV.ok]) (h6:=by simp[Hp.ok,Ob.ok,SV.au])
theorem Fa (l:List ag)(hl:l.length<1000000000)(k:Nat):aF Tryz.prog slices_Clone_Lapi_Op_api_Op.f [ops l] [] k 2 (.gs (k+1) l.length) [(k+1,.arr 43 29 l.length (jO l))]:=by
 unfold aF;refine(E_ l hl k).here (λ _=>false) (λ n h=>by cases h) rfl rfl ?_;rintro x F ⟨rfl,rfl⟩ _ _;simp[SV.ok,Hp.ok,Ob.ok,SV.aZ]
end
end
section
section
variable {σ:Type}
def gj (step:σ->ag->σ×Bool):σ->List ag->Option Nat×σ
 | s,[]=>(none,s)
 | s,x::l=>if (step s x).2 then (some 0,(step s x).1) else ((gj step (step s x).1 l).1.map (· +1),(gj step (step s x).1 l).2)
def bN (step:σ->ag->σ×Bool):σ->List ag->List ag×σ
 | s,[]=>([],s)
 | s,x::l=>(if (step s x).2 then (bN step (step s x).1 l).1 else x::(bN step (step s x).1 l).1,(bN step (step s x).1 l).2)
theorem pP (step:σ->ag->σ×Bool):∀ (l:List ag) (s:σ),(bN step s l).1.length<=l.length
 | [],s=>Nat.le_refl _
 | x::l,s=>by
  have:=pP step l (step s x).1;simp only[bN]
  split<;>simp<;>omega
theorem k9 {step:σ->ag->σ×Bool}:∀ {l:List ag} {s:σ},(gj step s l).1=none->bN step s l=(l,(gj step s l).2)
 | [],s,_=>rfl
 | x ::l,s,h=>by
  simp only[gj] at h ⊢
  by_cases e:(step s x).2=true
  .rw[if_pos e] at h;cases h
  .rw[if_neg e] at h ⊢
   have h2:(gj step (step s x).1 l).1=none:=by
    cases hh:(gj step (step s x).1 l).1 with
    | none=>rfl
    | some i=>rw[hh] at h;cases h
   simp only[bN];rw[k9 h2,if_neg e]
theorem zF {step:σ->ag->σ×Bool}:∀ {l:List ag} {s:σ} {i:Nat},(gj step s l).1=some i->i<l.length/\bN step s l=(l.take i++(bN step (gj step s l).2 (l.drop (i+1))).1,(bN step (gj step s l).2 (l.drop (i+1))).2)
 | [],s,i,h=>by cases h
 | x ::l,s,i,h=>by
  simp only[gj] at h ⊢
  by_cases e:(step s x).2=true
  .rw[if_pos e] at h ⊢
   injection h with h;subst h;simp[bN,e]
  .rw[if_neg e] at h ⊢
   cases hh:(gj step (step s x).1 l).1 with
   | none=>rw[hh] at h;cases h
   | some j=>
    rw[hh] at h;injection h with h;dsimp only at h;subst h;obtain⟨h1,h2⟩:=zF hh;refine⟨by simp;omega,?_⟩;simp only[bN];rw[h2,if_neg e];simp
structure xu (P:Program)(g:Nat)(first cap:List SV)(Fh:σ->Hp)(step:σ->ag->σ×Bool)(aX:Nat)(I:Nat->σ->Prop)(G:ag->Prop)(B:Nat):Prop where
 nd:∀ s,((Fh s).map (·.1)).Nodup
 nm:∀ s x,(Fh (step s x).1).map (·.1)=(Fh s).map (·.1)
 nx:∀ i s x,I i s->G x->i<B->I (i+1) (step s x).1
 ok:∀ s x q,(Fh s).ok q=true->(Fh (step s x).1).ok q=true
 call:∀ i s x k,I i s->G x->i<B->(Fh s).ok (λ n=>decide (n<k))=true->aF P g (first++[.agg x.cells]++cap) (Fh s) k aX (bl (step s x).2) (Fh (step s x).1)
 a1:∀ s q,(Fh s).ok q=true->SV.au q first=true/\SV.au q cap=true
end
section
attribute [local irreducible] SW RW aF SC ai ak
variable {σ:Type} {g:Nat} {first cap:List SV} {Fh:σ->Hp} {step:σ->ag->σ×Bool} {aX:Nat} {I:Nat->σ->Prop} {G:ag->Prop} {B:Nat}
def zG (o:Option Nat):SV:=match o with
 | some i=>i64 i
 | none=>i64 (-1)
structure mB (Fh:σ->Hp)(n k:Nat)(s0 s:σ):Prop where
 nm:(Fh s).map (·.1)=(Fh s0).map (·.1)
 ok:(Fh s).ok (λ n=>decide (n<k))=true
 no:lk (Fh s) n=none
theorem mB.mono {n k k':Nat}{s0 s:σ}(h:mB Fh n k s0 s)(hk:k<=k'):mB Fh n k' s0 s:=⟨h.nm,Hp.bM hk h.ok,h.no⟩
theorem mB.next (hd:xu Tryz.prog g first cap Fh step aX I G B){n k:Nat}{s0 s:σ}(h:mB Fh n k s0 s)(x:ag):mB Fh n k s0 (step s x).1:=
 ⟨(hd.nm s x).trans h.nm,hd.ok s x _ h.ok,jJ (by rw[hd.nm s x];exact eL h.no)⟩
theorem mB.sK {n k:Nat}{s0 s:σ}(h:mB Fh n k s0 s)(hn:n<k){e sz len:Nat}(ds:List DV):Hp.ok (λ n=>decide (n<k)) ((n,.arr e sz len (ds.map SV.d))::Fh s)=true:=ax (by simpa using hn) (SV.aZ _) h.ok
theorem mB.nd (hd:xu Tryz.prog g first cap Fh step aX I G B){n k:Nat}{s0 s:σ}(h:mB Fh n k s0 s)(o:Ob):(((n,o)::Fh s:Hp).map (·.1)).Nodup:=rC h.no (hd.nd s)
variable (hd:xu Tryz.prog g first cap Fh step aX I G B)
include hd in
set_option maxHeartbeats 1000000 in
theorem CU (l:List ag)(s0:σ)(hl:l.length<1000000000)(hB:l.length<=B)(hG:∀ x,x∈l->G x)(hI:I 0 s0)(n k:Nat)(hn:n<k)(h0:mB Fh n k s0 s0):
  SB Tryz.prog slices_IndexFunc_Lapi_Op_api_Op.f [.gs n l.length,.fn (.func g) first cap] ((n,.arr 43 29 l.length (jO l))::Fh s0) k (l.length*aX)
   (λ r F'=>r=zG (gj step s0 l).1/\F'=(n,.arr 43 29 l.length (jO l))::Fh (gj step s0 l).2):=by
 obtain⟨o1,o2⟩:=hd.a1 s0 _ h0.ok;refine slices_IndexFunc_Lapi_Op_api_Op.enter (by simp[SV.ok,SV.au,o1,o2,hn]) (h0.sK hn _) (by simp) ?_;dsimp only[slices_IndexFunc_Lapi_Op_api_Op.s,Co.M,Co.J,Co.F,Co.Z,Co.K,Co.L,Co.Y,Co.V,Co.I,Co.S];refine SW.seq (SW.g0 cj Zm af ?_);refine SW.seq (SW.seq (SW.g0 cj Zm af ?_));refine SW.block ?_
 refine SW.loop (α:={x:Nat×σ // x.1<=l.length/\I x.1 x.2/\mB Fh n (k+x.1*aX) s0 x.2/\gj step s0 l=((gj step x.2 (l.drop x.1)).1.map (· +x.1),(gj step x.2 (l.drop x.1)).2)})
  (λ x=>⟨[(8,i64 x.1.1),(7,i64 l.length),(0,.gs n l.length),(1,.fn (.func g) first cap)],(n,.arr 43 29 l.length (jO l))::Fh x.1.2,k+x.1.1*aX⟩) (λ x=>l.length - x.1.1)
  ⟨(0,s0),by omega,hI,by simpa using h0,by simp⟩ id ?_ ?_
 .exact aH.same (by simp) (by simp[aL,List.lookup,SV.aC,SV.bS,SV.ok,o1,o2,hn]) (by simpa using h0.sK hn _) (aK (h0.nd hd _))
 rintro⟨⟨i,s⟩,hi,hIs,hh,he⟩;dsimp only at hi hIs hh he ⊢;have hkk:k<=k+i*aX:=by omega
 by_cases h:i<l.length
 .have h1:decide ((i:Int)<l.length)=true:=by simp only[decide_eq_true_eq];omega
  obtain⟨x,hx⟩:=aP h;have hdr:l.drop i=x::l.drop (i+1):=by
   rw[List.drop_eq_getElem_cons h];rw[List.getElem?_eq_getElem h] at hx;injection hx with hx;rw[hx]
  have e2:IntKind.i64.wrap ((i:Int)+1)=((i+1:Nat):Int):=wrap_i64 _ (by omega);have hc:=hd.call i s x (k+i*aX) hIs (hG x (List.mem_of_getElem? hx)) (by omega) hh.ok;have hs:HSub (Fh s) ((n,.arr 43 29 l.length (jO l))::Fh s):=lH hh.no λ _ _ h=>h
  have hm:dx (dy ((n,Ob.arr 43 29 l.length (jO l))::Fh s) (Fh (step s x).1) (Fh s)) (Fh (step s x).1)=(n,.arr 43 29 l.length (jO l))::Fh (step s x).1:=
   oM (pre:=[(n,.arr 43 29 l.length (jO l))]) (hd.nm s x).symm (hh.nd hd _)
  have hh2:=(hh.next hd x).mono (k':=k+i*aX+aX) (by omega);have hk2:k+i*aX+aX=k+(i+1)*aX:=by rw[Nat.succ_mul];omega
  rw[hdr] at he;simp only[gj] at he;refine SW.seq (SW.g0 cj Zm h1 ?_);refine SW.seq (SW.an rfl (SW.skip ?_));refine(?_:Sl.SW _ _ _ _ _ _);refine SW.seq (SW.block (SW.seq (SW.g0 cj Zm af ?_)));refine SW.seq ?_;rcases hb:(step s x).2 with _|_
  .rw[hb] at hc
   refine SW.g1 cj Zm (Zq (tB hx) (Zq (lD hx) (hm))) (Zq hs hc) ?_;refine SW.ah rfl (SW.skip (SW.g0 cj Zm e2 ?_));rw[if_neg (by rw[hb];simp)] at he;have hh3:mB Fh n (k+(i+1)*aX) s0 (step s x).1:=by rw[<- hk2];exact hh2
   refine⟨⟨(i+1,(step s x).1),by dsimp only;omega,hd.nx i s x hIs (hG x (List.mem_of_getElem? hx)) (by omega),hh3,?_⟩,id,by simp;omega,?_⟩
   .rw[he]
    simp only[Option.map_map]
    congr 2
    funext j
    simp only[Function.comp];omega
   .exact aH.same (by simp) (by simp[aL,List.lookup,SV.aC,SV.bS,SV.ok];exact⟨by omega,(hd.a1 s0 _ (Hp.bM (by omega) h0.ok)).1,(hd.a1 s0 _ (Hp.bM (by omega) h0.ok)).2⟩) (hh3.sK (by omega) _) (aK (hh3.nd hd _))
  .rw[hb] at hc
   refine SW.g1 cj Zm (Zq (tB hx) (Zq (lD hx) (hm))) (Zq hs hc) ?_;refine SW.an rfl (SW.seq ?_);have:k+i*aX+aX<=k+l.length*aX:=by
    have:=Nat.mul_le_mul_right aX (show i+1<=l.length by omega);omega
   refine SW.weak id (st1:=⟨[(5,i64 i)],(n,.arr 43 29 l.length (jO l))::Fh (step s x).1,k+l.length*aX⟩) (aH.same (by simp) (by simp[aL,List.lookup,SV.aC,SV.ok]) ((hh2.mono this).sK (by omega) _) (aK (hh2.nd hd _))) ?_;refine SW.g0 cj Zm af ?_;rw[if_pos (by rw[hb])] at he;refine SW.ret ?_;rw[he];exact End.mk ((n,.arr 43 29 l.length (jO l))::Fh (step s x).1) (h3:=λ _ _ h=>h) (h4:=⟨by simp[ez,zG],rfl⟩) (h6:=(hh2.mono this).sK (by omega) _)
 .have h1:decide ((i:Int)<l.length)=false:=by simp only[decide_eq_false_iff_not];omega
  have e:i=l.length:=by omega
  subst e;rw[List.drop_length] at he;refine SW.seq (SW.g0 cj Zm h1 ?_);refine SW.seq (SW.ah rfl (SW.exit ?_));refine(?_:Sl.SW _ _ _ _ _ _);refine SW.seq (SW.g0 cj Zm af ?_);refine SW.ret ?_;rw[he];exact End.mk ((n,.arr 43 29 l.length (jO l))::Fh s) (h3:=λ _ _ h=>h) (h4:=⟨rfl,rfl⟩) (h6:=(hh.mono (by omega)).sK (by omega) _)
include hd in
theorem ym {q:Nat->Bool}:∀ (l:List ag) (s:σ),(Fh s).ok q=true->(Fh (gj step s l).2).ok q=true
 | [],s,h=>h
 | x::l,s,h=>by
  simp only[gj]
  split
  .exact hd.ok s x q h
  .exact ym l _ (hd.ok s x q h)
include hd in
theorem zH {q:Nat->Bool}:∀ (l:List ag) (s:σ),(Fh s).ok q=true->(Fh (bN step s l).2).ok q=true
 | [],s,h=>h
 | x::l,s,h=>zH l _ (hd.ok s x q h)
include hd in
theorem uf:∀ (l:List ag) (s:σ),(Fh (gj step s l).2).map (·.1)=(Fh s).map (·.1)
 | [],s=>rfl
 | x::l,s=>by
  simp only[gj]
  split
  .exact hd.nm s x
  .exact(uf l _).trans (hd.nm s x)
include hd in
theorem Fb:∀ (l:List ag) (s:σ) (i:Nat),(∀ x,x∈l->G x)->i+l.length<=B->I i s->∀ j,(gj step s l).1=some j->I (i+j+1) (gj step s l).2
 | [],s,i,_,_,_,j,h=>by cases h
 | x ::l,s,i,hG,hB,hi,j,h=>by
  simp only[List.length_cons] at hB;simp only[gj] at h ⊢
  by_cases e:(step s x).2=true
  .rw[if_pos e] at h ⊢
   injection h with h;subst h;exact hd.nx i s x hi (hG x (by simp)) (by omega)
  .rw[if_neg e] at h ⊢
   cases hh:(gj step (step s x).1 l).1 with
   | none=>rw[hh] at h;cases h
   | some q=>
    rw[hh] at h;injection h with h;dsimp only at h;subst h;have:=Fb l (step s x).1 (i+1) (λ y hy=>hG y (List.mem_cons_of_mem _ hy)) (by omega) (hd.nx i s x hi (hG x (by simp)) (by omega)) q hh
    rwa [show i+(q+1)+1=i+1+q+1 by omega]
theorem yo {n:Nat}{s:σ}{o:Ob}(ho:∀ q,o.ok q=true)(lV:(Fh s).ok (λ m=>(lk (Fh s) m).isSome)=true)(hno:lk (Fh s) n=none):Hp.ok (λ m=>(lk ((n,o)::Fh s) m).isSome) ((n,o)::Fh s)=true:=by
 refine ax (by simp[aa]) (ho _) (Hp.eu (λ m hm=> ?_) lV);rw[aa]
 split
 .rfl
 .exact hm
include hd in
theorem CV (l:List ag)(s0:σ)(hl:l.length<1000000000)(hB:l.length<=B)(hG:∀ x,x∈l->G x)(hI:I 0 s0)(n k:Nat)(hn:n<k)(h0:mB Fh n k s0 s0)(lV:(Fh s0).ok (λ m=>(lk (Fh s0) m).isSome)=true):
  aF Tryz.prog slices_IndexFunc_Lapi_Op_api_Op.f [.gs n l.length,.fn (.func g) first cap] ((n,.arr 43 29 l.length (jO l))::Fh s0) k (l.length*aX) (zG (gj step s0 l).1) ((n,.arr 43 29 l.length (jO l))::Fh (gj step s0 l).2):=by
 unfold aF;have hq:=yo (n:=n) (o:= .arr 43 29 l.length (jO l)) (λ q=>SV.aZ _) lV h0.no;have hq0:(Fh s0).ok (λ m=>(lk ((n,Ob.arr 43 29 l.length (jO l))::Fh s0) m).isSome)=true:=by
  simp only[Hp.ok,List.all_cons,Bool.and_eq_true] at hq ⊢;exact hq.2
 obtain⟨o1,o2⟩:=hd.a1 s0 _ hq0;refine(CU hd l s0 hl hB hG hI n k hn h0).here (λ m=>(lk ((n,Ob.arr 43 29 l.length (jO l))::Fh s0) m).isSome) (λ m h e=>by rw[e] at h;cases h) (by simp only[SV.au,SV.ok,o1,o2,Bool.and_true];simp[aa]) hq ?_;rintro x F ⟨rfl,rfl⟩ _ _;refine⟨by unfold zG;split<;>rfl,?_⟩;have:=ym hd l s0 hq0;exact ax (by simp[aa]) (SV.aZ _) (Hp.eu (λ m hm=>by rw[hm];rfl) this)
end
end
section
theorem zI {α:Type}{l:List α}{w:Nat}{x:α}(h:w<l.length):(l.set w x).take (w+1)=l.take w++[x]:=by
 rw[bt (x:=x) (by simp[h]),List.take_set_of_le (Nat.le_refl _)]
theorem set_drop {α:Type}{l:List α}{w j:Nat}{x:α}(h:w<j):(l.set w x).drop j=l.drop j:=by
 rw[List.drop_set_of_lt h]
theorem drop_cons {α:Type}{l:List α}{i:Nat}{x:α}(hx:l[i]? =some x):l.drop i=x::l.drop (i+1):=by
 have h:=cu hx;rw[List.drop_eq_getElem_cons h];rw[List.getElem?_eq_getElem h] at hx;injection hx with hx;rw[hx]
theorem zJ {α:Type}{l m:List α}{j:Nat}{x:α}(h:l.drop j=m.drop j)(hx:m[j]? =some x):l[j]? =some x:=by
 have h1:(l.drop j)[0]? =l[j]? :=by simp
 have h2:(m.drop j)[0]? =m[j]? :=by simp
 rw[<- h1,h,h2];exact hx
theorem xw {α:Type}{l m:List α}{j:Nat}(h:l.drop j=m.drop j):l.drop (j+1)=m.drop (j+1):=by
 have:∀ q:List α,q.drop (j+1)=(q.drop j).drop 1:=λ q=>by rw[List.drop_drop]
 rw[this,this,h]
theorem Fc (cur:List ag)(w m:Nat)(z:List SV)(hz:z.length=29)(hw:w+m=cur.length):(cq (jO cur) (w*29) ((List.replicate m z).flatten)).take (w*29)=jO (cur.take w):=by
 have hl:((List.replicate m z).flatten).length=m*29:=by simp[hz]
 have hc:(jO cur).length=cur.length*29:=by rw[List.length_map,jP]
 rw[qo (by rw[hl,hc,<- hw,Nat.add_mul];exact Nat.le_refl _),List.append_assoc,List.take_append_of_le_length (by rw[List.length_take,hc,<- hw,Nat.add_mul];omega),List.take_of_length_le (by rw[List.length_take];omega)];show((cur.flatMap ag.ds).map SV.d).take (w*29)=_;rw[<- List.map_take]
 congr 1
 conv=>lhs;rw[<- List.take_append_drop w cur]
 rw[List.flatMap_append,List.take_append_of_le_length,List.take_of_length_le]
 .rw[jP,List.length_take];exact Nat.mul_le_mul_right 29 (Nat.min_le_left _ _)
 .rw[jP,List.length_take,Nat.min_eq_left (by omega)];exact Nat.le_refl _
section
attribute [local irreducible] SW RW aF SC ai ak
variable {σ:Type} {g:Nat} {first cap:List SV} {Fh:σ->Hp} {step:σ->ag->σ×Bool} {aX:Nat} {I:Nat->σ->Prop} {G:ag->Prop} {B:Nat}
variable (hd:xu Tryz.prog g first cap Fh step aX I G B)
include hd in
set_option maxHeartbeats 4000000 in
theorem A9 (l : List ag)(s0:σ)(hl:l.length<1000000000)(hB:l.length<=B)(hG:∀ x,x∈l->G x)(hI:I 0 s0)(n k:Nat)(hn:n<k)(h0:mB Fh n k s0 s0)(lV:(Fh s0).ok (λ m=>(lk (Fh s0) m).isSome)=true):
    SB Tryz.prog slices_DeleteFunc_Lapi_Op_api_Op.f [.gs n l.length,.fn (.func g) first cap] ((n,.arr 43 29 l.length (jO l))::Fh s0) k (l.length*aX+l.length*(aX+1))
      (λ r F'=>r= .gs n (bN step s0 l).1.length/\F'=(n,.arr 43 29 (bN step s0 l).1.length (jO (bN step s0 l).1))::Fh (bN step s0 l).2):=by
  obtain⟨o1,o2⟩:=hd.a1 s0 _ h0.ok;have ok1:∀ kx,k<=kx->SV.au (λ n=>decide (n<kx)) first=true/\SV.au (λ n=>decide (n<kx)) cap=true:=λ kx hx=>hd.a1 s0 _ (Hp.bM hx h0.ok)
  refine slices_DeleteFunc_Lapi_Op_api_Op.enter (by simp[SV.ok,SV.au,o1,o2,hn]) (h0.sK hn _) (by simp) ?_;dsimp only[slices_DeleteFunc_Lapi_Op_api_Op.s,Co.M,Co.J,Co.N,Co.F,Co.bC,Co.K,Co.L,Co.Q,Co.W,Co.Y,Co.V,Co.O,Co.I,Co.S];have hx:=CV hd l s0 hl hB hG hI n k hn h0 lV;have hm0:dx (dy ((n,Ob.arr 43 29 l.length (jO l))::Fh s0) ((n,Ob.arr 43 29 l.length (jO l))::Fh (gj step s0 l).2) (Fh s0)) (Fh (gj step s0 l).2)=(n,Ob.arr 43 29 l.length (jO l))::Fh (gj step s0 l).2:=
    sJ (uf hd l s0).symm (h0.nd hd _)
  have h1s:mB Fh n k s0 (gj step s0 l).2:=⟨uf hd l s0,ym hd l s0 h0.ok,jJ (by rw[uf hd l s0];exact eL h0.no)⟩;refine SW.seq (SW.g0 ba Zm af ?_);refine SW.seq ?_;rcases hi:(gj step s0 l).1 with _|i
  . have hk:=k9 hi
    rw[hi] at hx;have hx:aF Tryz.prog slices_IndexFunc_Lapi_Op_api_Op.f [.gs n l.length,.fn (.func g) first cap] ((n,.arr 43 29 l.length (jO l))::Fh s0) k (l.length*aX) (.d (.int .i64 (-1))) ((n,.arr 43 29 l.length (jO l))::Fh (gj step s0 l).2):=hx
    (refine SW.bG ba Zm ?_;(repeat (first|refine RW.ro hm0 (h:=?_)|refine RW.skip (h:=?_)|refine RW.op hm0 (h:=?_)|refine RW.di hm0 (h:=?_)|refine RW.aR (h:=?_)|(refine RW.aW (h:=?_);(first|refine ai.mk (hm0) (hs:=(λ _ _ h=>h)) (hc:=hx) (h:=?_)))));refine RW.nil ⟨by kernel_rfl,ak.mk (h:=?_)⟩)
    refine SW.seq (SW.seq (SW.g0 ba Zm af ?_));refine SW.an rfl (SW.seq (SW.weak id (st1:=⟨[(0,.gs n l.length)],(n,.arr 43 29 l.length (jO l))::Fh (gj step s0 l).2,k+(l.length*aX+l.length*(aX+1))⟩) (aH.same (by simp) (by simp[aL,List.lookup,SV.aC,SV.ok];omega) ((h1s.mono (by show k<=k+(l.length*aX+l.length*(aX+1));omega)).sK (by show n<k+(l.length*aX+l.length*(aX+1));omega) _) (aK (h1s.nd hd _))) ?_));refine SW.g0 ba Zm af ?_;refine SW.ret ?_;rw[hk];exact End.mk ((n,.arr 43 29 l.length (jO l))::Fh (gj step s0 l).2) (h3:=λ _ _ h=>h) (h4:=⟨rfl,rfl⟩) (h5:=by simp[ez,SV.ok];omega) (h6:=(h1s.mono (by omega)).sK (by omega) _)
  . obtain⟨hil,hk⟩:=zF hi
    have hI1:=Fb hd l s0 0 hG (by omega) hI i hi;rw[hi] at hx;have hx:aF Tryz.prog slices_IndexFunc_Lapi_Op_api_Op.f [.gs n l.length,.fn (.func g) first cap] ((n,.arr 43 29 l.length (jO l))::Fh s0) k (l.length*aX) (i64 i) ((n,.arr 43 29 l.length (jO l))::Fh (gj step s0 l).2):=hx;obtain⟨s1,hs1⟩:∃ s1,(gj step s0 l).2=s1:=⟨_,rfl⟩;rw[hs1] at hx hm0 h1s hk hI1
    (refine SW.bG ba Zm ?_;(repeat (first|refine RW.ro hm0 (h:=?_)|refine RW.skip (h:=?_)|refine RW.op hm0 (h:=?_)|refine RW.di hm0 (h:=?_)|refine RW.aR (h:=?_)|(refine RW.aW (h:=?_);(first|refine ai.mk (hm0) (hs:=(λ _ _ h=>h)) (hc:=hx) (h:=?_)))));refine RW.nil ⟨by kernel_rfl,ak.mk (h:=?_)⟩)
    have hne:((i:Int) == -1)=false:=by rw[beq_eq_false_iff_ne];omega
    refine SW.seq (SW.seq (SW.g0 ba Zm hne ?_));refine SW.ah rfl (SW.skip ?_);refine(?_:Sl.SW _ _ _ _ _ _);have e1:IntKind.i64.wrap ((i:Int)+1)=((i+1:Nat):Int):=wrap_i64 _ (by omega);refine SW.seq (SW.seq (SW.g0 ba Zm e1 ?_));refine SW.block ?_
    let K0:=k+l.length*aX
    let Inv:Nat->Nat->List ag->σ->Prop:=λ j w cur s=>(j<=l.length/\w<j/\cur.length=l.length)/\cur.drop j=l.drop j/\I j s/\mB Fh n (K0+j*(aX+1)) s0 s/\bN step s0 l=(cur.take w++(bN step s (l.drop j)).1,(bN step s (l.drop j)).2)
    refine SW.loop (α:={x:Nat×Nat×List ag×σ // Inv x.1 x.2.1 x.2.2.1 x.2.2.2})
      (λ x=>⟨[(6,i64 x.1.1),(5,i64 x.1.2.1),(0,.gs n l.length),(1,.fn (.func g) first cap)],(n,.arr 43 29 l.length (jO x.1.2.2.1))::Fh x.1.2.2.2,K0+x.1.1*(aX+1)⟩) (λ x=>l.length - x.1.1)
      ⟨(i+1,i,l,s1),⟨by show i+1<=l.length;omega,by show i<i+1;omega,rfl⟩,rfl,by rw[Nat.zero_add] at hI1;exact hI1,h1s.mono (by show k<=k+l.length*aX+_;omega),hk⟩ id ?_ ?_
    . refine aH.same (by show k<=k+l.length*aX+_;omega) (by simp[aL,List.lookup,SV.aC,SV.bS,SV.ok];exact⟨by show n<k+l.length*aX+_;omega,ok1 _ (by show k<=k+l.length*aX+_;omega)⟩) ((h1s.mono (by show k<=k+l.length*aX+_;omega)).sK (by show n<k+l.length*aX+_;omega) _) (aK (h1s.nd hd _))
    rintro⟨⟨j,w,cur,s⟩,⟨hj,hwj,hcl2⟩,hdr,hIs,hh,he⟩;dsimp only at hj hwj hcl2 hdr hIs hh he ⊢;have hKk:k<=K0+j*(aX+1):=by show k<=k+l.length*aX+_;omega
    obtain⟨K,hK⟩:∃ K,K0+j*(aX+1)=K:=⟨_,rfl⟩;have hK1:K0+(j+1)*(aX+1)=K+1+aX:=by rw[<- hK,Nat.succ_mul];omega
    rw[hK] at hh hKk ⊢
    by_cases h:j<l.length
    . have h1 : decide ((j:Int)<l.length)=true:=by simp only[decide_eq_true_eq];omega
      obtain⟨x,hxl⟩:=aP h;have hxc:cur[j]? =some x:=zJ hdr hxl;have e2:IntKind.i64.wrap ((j:Int)+1)=((j+1:Nat):Int):=wrap_i64 _ (by omega);have e3:IntKind.i64.wrap ((w:Int)+1)=((w+1:Nat):Int):=wrap_i64 _ (by omega);have hGx:=hG x (List.mem_of_getElem? hxl);rw[drop_cons hxl] at he;simp only[bN] at he;have hfr:lk (Fh s) K=none:=Hp.out hh.ok (Nat.le_refl _);have hfr':List.lookup K (Fh s)=none:=hfr;have f1:=bX (show K≠n by omega);have hh1:=hh.mono (k':=K+1) (by omega);have hc:=hd.call j s x (K+1) hIs hGx (by omega) hh1.ok;have hs:HSub (Fh s) ((K,.box 43 x.cells)::(n,.arr 43 29 l.length (jO cur))::Fh s):=lH hfr (lH hh.no λ _ _ h=>h);have oH:(((K,Ob.box 43 x.cells)::(n,Ob.arr 43 29 l.length (jO cur))::Fh s:Hp).map (·.1)).Nodup:=rC (by rw[aa,if_neg (by omega)];exact hfr) (hh.nd hd _);have hm:dx (dy ((K,Ob.box 43 x.cells)::(n,Ob.arr 43 29 l.length (jO cur))::Fh s) (Fh (step s x).1) (Fh s)) (Fh (step s x).1)=(K,Ob.box 43 x.cells)::(n,.arr 43 29 l.length (jO cur))::Fh (step s x).1:=
        oM (pre:=[(K,.box 43 x.cells),(n,.arr 43 29 l.length (jO cur))]) (hd.nm s x).symm oH
      have hh2:mB Fh n (K0+(j+1)*(aX+1)) s0 (step s x).1:=by rw[hK1];exact(hh.next hd x).mono (by omega)
      have hfr2:List.lookup K (Fh (step s x).1)=none:=jJ (by rw[hd.nm s x];exact eL hfr);have hdr2:=xw hdr;refine SW.seq (SW.seq (SW.g0 ba Zm h1 ?_));refine SW.an rfl (SW.skip ?_);refine(?_:Sl.SW _ _ _ _ _ _);refine SW.seq (SW.block (SW.seq (SW.g0 ba Zm (Zq (tB hxc) (Zq (lD hxc) (Zq hfr' f1))) ?_)));refine SW.seq ?_;rcases hb:(step s x).2 with _|_
      . rw[hb] at hc
        refine SW.g1 ba Zm hm (Zq hs hc) ?_;refine SW.an rfl (SW.seq ?_);have hs1:cq (List.map SV.d (cur.flatMap ag.ds)) (w*29) x.cells=List.map SV.d ((cur.set w x).flatMap ag.ds):=LF x (by omega);have hs2:(w*29+29<=(List.map SV.d (cur.flatMap ag.ds)).length)=True:=eq_true (by rw[List.length_map,jP,hcl2];omega);refine SW.g0 ba Zm (Zq hs1 (Zq hs2 f1)) ?_;refine SW.g0 ba Zm e3 ?_;refine SW.g0 ba Zm e2 ?_;rw[if_neg (by rw[hb];simp)] at he;refine⟨⟨(j+1,w+1,cur.set w x,(step s x).1),⟨by show j+1<=l.length;omega,by show w+1<j+1;omega,by simp[hcl2]⟩,by rw[set_drop (by omega)];exact hdr2,hd.nx j s x hIs hGx (by omega),hh2,?_⟩,id,by simp;omega,?_⟩
        . rw[he,zI (by omega)];simp
        . exact aH.same (by show k<=k+l.length*aX+_;omega) (by simp [aL,List.lookup,SV.aC,SV.bS,SV.ok];exact ⟨by show n<k+l.length*aX+_;omega,ok1 _ (by show k<=k+l.length*aX+_;omega)⟩) (hh2.sK (by show n<k+l.length*aX+_;omega) _) (λ y hy=>by
            rw[aa,if_neg ?_]
            . exact aK (hh2.nd hd _) y hy
            . intro e
              rcases List.mem_cons.1 hy with rfl|hy
              . dsimp only at e;omega
              . have:=mP (aK (hd.nd _) y hy)
                rw[e] at this;exact eL hfr2 this)
      . rw[hb] at hc
        refine SW.g1 ba Zm hm (Zq hs hc) ?_;refine SW.ah rfl (SW.skip ?_);refine SW.g0 ba Zm e2 ?_;rw [if_pos (by rw [hb])] at he;refine ⟨⟨(j+1,w,cur,(step s x).1),⟨by show j+1<=l.length;omega,by show w<j+1;omega,hcl2⟩,hdr2,hd.nx j s x hIs hGx (by omega),hh2,he⟩,id,by simp;omega,?_⟩;exact aH.same (by show k<=k+l.length*aX+_;omega) (by simp [aL,List.lookup,SV.aC,SV.bS,SV.ok];exact ⟨by show n<k+l.length*aX+_;omega,ok1 _ (by show k<=k+l.length*aX+_;omega)⟩) (hh2.sK (by show n<k+l.length*aX+_;omega) _) (λ y hy=>by
            rw[aa,if_neg ?_]
            . exact aK (hh2.nd hd _) y hy
            . intro e
              rcases List.mem_cons.1 hy with rfl|hy
              . dsimp only at e;omega
              . have:=mP (aK (hd.nd _) y hy)
                rw[e] at this;exact eL hfr2 this)
    . have h1:decide ((j:Int)<l.length)=false:=by simp only[decide_eq_false_iff_not];omega
      have e:j=l.length:=by omega
      rw[e,List.drop_length] at he;simp only[bN,List.append_nil] at he;have hKe:K=k+(l.length*aX+l.length*(aX+1)):=by rw[<- hK,e];show k+l.length*aX+_=_;omega
      rw[e] at h1;refine SW.seq (SW.seq ?_);rw[e];refine SW.g0 ba Zm h1 ?_;refine SW.ah rfl (SW.exit ?_);refine(?_:Sl.SW _ _ _ _ _ _);have e4:(w*29+(l.length - w)*29<=(List.map SV.d (cur.flatMap ag.ds)).length)=True:=eq_true (by
        rw[List.length_map,jP,hcl2,<- Nat.add_mul];exact Nat.mul_le_mul_right 29 (by omega))
      refine SW.seq (SW.g0 ba Zm e4 ?_);have hz:(ag.zero.cells).length=29:=rfl;have hct:=Fc cur w (l.length - w) ag.zero.cells hz (by omega);obtain⟨Z,hZ⟩:∃ Z,cq (jO cur) (w*29) (List.replicate (l.length - w) ag.zero.cells).flatten=Z:=⟨_,rfl⟩;rw[hZ] at hct;rw[hZ];refine SW.seq (SW.g0 ba Zm af ?_);refine SW.trim (n:=n) (e:=43) (sz:=29) (len:=l.length) (cs:=Z) w (by simp[aa]) (by omega) ?_;dsimp only;rw[je,hct,hKe];rw[hKe] at hh;refine SW.ret ?_;rw[he];have hlw:(cur.take w).length=w:=by rw[List.length_take];omega
      exact End.mk ((n,.arr 43 29 w (jO (cur.take w)))::Fh s) (h3:=λ _ _ h=>h) (h4:=⟨by simp[ez,hlw],by simp[hlw]⟩) (h5:=by simp[ez,SV.ok];omega) (h6:=hh.sK (by omega) _)
include hd in
theorem ve (l:List ag)(s0:σ)(hl:l.length<1000000000)(hB:l.length<=B)(hG:∀ x,x∈l->G x)(hI:I 0 s0)(n k:Nat)(hn:n<k)(h0:mB Fh n k s0 s0)(lV:(Fh s0).ok (λ m=>(lk (Fh s0) m).isSome)=true):
  aF Tryz.prog slices_DeleteFunc_Lapi_Op_api_Op.f [.gs n l.length,.fn (.func g) first cap] ((n,.arr 43 29 l.length (jO l))::Fh s0) k (l.length*aX+l.length*(aX+1)) (.gs n (bN step s0 l).1.length)
   ((n,.arr 43 29 (bN step s0 l).1.length (jO (bN step s0 l).1))::Fh (bN step s0 l).2):=by
 unfold aF;have hq:=yo (n:=n) (o:= .arr 43 29 l.length (jO l)) (λ q=>SV.aZ _) lV h0.no;have hq0:(Fh s0).ok (λ m=>(lk ((n,Ob.arr 43 29 l.length (jO l))::Fh s0) m).isSome)=true:=by
  simp only[Hp.ok,List.all_cons,Bool.and_eq_true] at hq ⊢;exact hq.2
 obtain⟨o1,o2⟩:=hd.a1 s0 _ hq0;refine(A9 hd l s0 hl hB hG hI n k hn h0 lV).here (λ m=>(lk ((n,Ob.arr 43 29 l.length (jO l))::Fh s0) m).isSome) (λ m h e=>by rw[e] at h;cases h) (by simp only[SV.au,SV.ok,o1,o2,Bool.and_true];simp[aa]) hq ?_;rintro x F ⟨rfl,rfl⟩ _ _;refine⟨by simp[SV.ok,aa],?_⟩;have:=zH hd l s0 hq0;exact ax (by simp[aa]) (SV.aZ _) (Hp.eu (λ m hm=>by rw[hm];rfl) this)
end
end
section
structure Tr where
 bx:Nat
 ma:Nat
 mm:Nat
 at_:MM Dt Cr
 ca:Nat
 made:MM Dt ag
 cm:Nat
abbrev Tr.oa (T:Tr):Ob:= .map (aq Dt.cells cv T.at_) T.ca
abbrev Tr.om (T:Tr):Ob:= .map (aq Dt.cells ov T.made) T.cm
def Tr.hp (T:Tr):Hp:=[(T.bx,.box 166 [.mp T.ma,.mp T.mm]),(T.ma,.map (aq Dt.cells cv T.at_) T.ca),(T.mm,.map (aq Dt.cells ov T.made) T.cm)]
structure Tr.sep (T:Tr):Prop where
 ab:T.ma≠T.bx
 mb:T.mm≠T.bx
 am:T.ma≠T.mm
structure Tr.lt (T:Tr)(k:Nat):Prop where
 b:T.bx<k
 a:T.ma<k
 m:T.mm<k
theorem Tr.OB {T:Tr}{q:Nat->Bool}(h1:q T.bx=true)(h2:q T.ma=true)(h3:q T.mm=true):T.hp.ok q=true:=by
 simp only[Tr.hp,Hp.ok,List.all_cons,List.all_nil,Ob.ok,SV.au,SV.ok,h1,h2,h3,Bool.and_true,Bool.true_and];have a:=kB q T.at_;have b:=bF q T.made;simp only[a,b,Bool.and_true]
theorem Tr.qK {T:Tr}{k:Nat}(h:T.lt k):T.hp.ok (λ n=>decide (n<k))=true:=Tr.OB (by simpa using h.b) (by simpa using h.a) (by simpa using h.m)
theorem Tr.names (T:Tr):T.hp.map (·.1)=[T.bx,T.ma,T.mm]:=rfl
theorem Tr.nd {T:Tr}(h:T.sep):(T.hp.map (·.1)).Nodup:=by
 have:=h.ab;have:=h.mb;have:=h.am;simp[Tr.names];omega
theorem Tr.KD (T:Tr):lk T.hp T.bx=some (.box 166 [.mp T.ma,.mp T.mm]):=by simp[Tr.hp,aa]
theorem Tr.M3 {T:Tr}(h:T.sep):lk T.hp T.ma=some T.oa:=by
 rw[Tr.hp,aa,if_neg h.ab,aa,if_pos rfl]
theorem Tr.OY {T:Tr}(h:T.sep):lk T.hp T.mm=some T.om:=by
 rw[Tr.hp,aa,if_neg h.mb,aa,if_neg (Ne.symm h.am),aa,if_pos rfl]
theorem Tr.cl {T:Tr}(h:T.sep):T.hp.ok (λ m=>(lk T.hp m).isSome)=true:=Tr.OB (by rw[T.KD];rfl) (by rw[Tr.M3 h];rfl) (by rw[Tr.OY h];rfl)
theorem Tr.out {T:Tr}{m:Nat}(h1:m≠T.bx)(h2:m≠T.ma)(h3:m≠T.mm):lk T.hp m=none:=by
 rw[Tr.hp,aa,if_neg h1,aa,if_neg h2,aa,if_neg h3];rfl
theorem Tr.P8 {T:Tr}{k m:Nat}(h:T.lt k)(hm:k<=m):lk T.hp m=none:=by
 obtain⟨h1,h2,h3⟩:=h;exact Tr.out (by omega) (by omega) (by omega)
section
attribute [local irreducible] SW RW aF SC ai ak Tr.hp
variable {T:Tr} (hs:T.sep)
include hs in
theorem IJ {k:Nat}(hlt:T.lt k):aF Tryz.prog tree_Tree_none.f [.ptr T.bx 0] T.hp k 0 (bl false) T.hp:=by
 refine SB.same ?_ (Tr.cl hs) (by simp[SV.au,SV.ok,Tr.hp,aa]) (λ _=>rfl);refine tree_Tree_none.enter (by simp[SV.au,SV.ok];exact hlt.b) (Tr.qK hlt) (by simp) ?_;dsimp only[tree_Tree_none.s,Co.M,Co.G,Co.J,Co.H,Co.F,Co.B,Co.S];have f1:=bX hs.ab;have u1:List.lookup T.bx T.hp=some (.box 166 [.mp T.ma,.mp T.mm]):=T.KD;have u2:List.lookup T.ma T.hp=some T.oa:=Tr.M3 hs;(repeat (first|refine SW.seq ?_|refine SW.block ?_|refine SW.g0 im Zm (Zq f1 (Zq u1 u2)) ?_|refine SW.skip ?_|refine SW.exit ?_|refine SW.ret ?_|refine SW.an rfl ?_|refine SW.ah rfl ?_));exact End.mk T.hp (h3:=λ _ _ h=>h) (h4:=⟨rfl,rfl⟩) (h6:=Tr.qK hlt)
theorem BZ (o:ag){b k:Nat}(hb:b<k):aF Tryz.prog tree_Tree_Why_1.f [.ptr b 0] [(b,.box 43 o.cells)] k 0 (bl (decide (o.kind≠1))) [(b,.box 43 o.cells)]:=by
 refine SB.same ?_ (by simp[Hp.ok,Ob.ok,aa]) (by simp[SV.au,SV.ok,aa]) (λ _=>rfl);refine tree_Tree_Why_1.enter (by simp[SV.au,SV.ok];exact hb) (by simp[Hp.ok,Ob.ok];exact hb) (by simp) ?_;dsimp only[tree_Tree_Why_1.s,Co.M,Co.J,Co.F,Co.B,Co.b8,Co.T,Co.D,Co.S];have e1:(((o.kind:Nat):Int) != 1)=decide (o.kind≠1):=by
  rw[Bool.eq_iff_iff];simp only[bne_iff_ne,decide_eq_true_eq];omega
 (repeat (first|refine SW.seq ?_|refine SW.block ?_|refine SW.g0 [0,1] Zm e1 ?_|refine SW.skip ?_|refine SW.exit ?_|refine SW.ret ?_|refine SW.an rfl ?_|refine SW.ah rfl ?_));exact End.mk [(b,.box 43 o.cells)] (h3:=λ _ _ h=>h) (h4:=⟨rfl,rfl⟩) (h6:=by simp[Hp.ok,Ob.ok];exact hb)
theorem B0 (c:Cr)(o:ag){b b2 k:Nat}(hb:b<k)(HQ:b2<k)(hne:b≠b2):aF Tryz.prog tree_Tree_Why_3.f [.ptr b 0,.ptr b2 0] [(b2,.box 43 o.cells),(b,.box 158 c.cells)] k 0 (bl (decide (c.hold≠o.who))) [(b2,.box 43 o.cells),(b,.box 158 c.cells)]:=by
 refine SB.same ?_ (by simp[Hp.ok,Ob.ok,aa,hne]) (by simp[SV.au,SV.ok,aa,hne]) (λ _=>rfl);refine tree_Tree_Why_3.enter (by simp[SV.au,SV.ok];omega) (by simp[Hp.ok,Ob.ok];omega) (by simp) ?_;dsimp only[tree_Tree_Why_3.s,Co.M,Co.J,Co.F,Co.B,Co.T,Co.V,Co.D,Co.S];have f1:=bX hne;have e1:(((c.hold:Nat):Int) != ((o.who:Nat):Int))=decide (c.hold≠o.who):=by
  rw[Bool.eq_iff_iff];simp only[bne_iff_ne,decide_eq_true_eq];omega
 (repeat (first|refine SW.seq ?_|refine SW.block ?_|refine SW.g0 eJ Zm (Zq e1 f1) ?_|refine SW.skip ?_|refine SW.exit ?_|refine SW.ret ?_|refine SW.an rfl ?_|refine SW.ah rfl ?_));exact End.mk [(b2,.box 43 o.cells),(b,.box 158 c.cells)] (h3:=λ _ _ h=>h) (h4:=⟨rfl,rfl⟩) (h6:=by simp[Hp.ok,Ob.ok];omega)
theorem B1 (c:Cr){b k:Nat}(hb:b<k):aF Tryz.prog tree_Tree_Why_4.f [.ptr b 0] [(b,.box 158 c.cells)] k 0 (bl (bits .and .u8 (c.aT:Int) 1 == 0)) [(b,.box 158 c.cells)]:=by
 refine SB.same ?_ (by simp[Hp.ok,Ob.ok,aa]) (by simp[SV.au,SV.ok,aa]) (λ _=>rfl);refine tree_Tree_Why_4.enter (by simp[SV.au,SV.ok];exact hb) (by simp[Hp.ok,Ob.ok];exact hb) (by simp) ?_;dsimp only[tree_Tree_Why_4.s,Co.M,Co.J,Co.F,Co.B,Co.b8,Co.T,Co.D,Co.S];(repeat (first|refine SW.seq ?_|refine SW.block ?_|refine SW.g0 [0,1] Zm af ?_|refine SW.skip ?_|refine SW.exit ?_|refine SW.ret ?_|refine SW.an rfl ?_|refine SW.ah rfl ?_));exact End.mk [(b,.box 158 c.cells)] (h3:=λ _ _ h=>h) (h4:=⟨rfl,rfl⟩) (h6:=by simp[Hp.ok,Ob.ok];exact hb)
def iw (o:ag)(c:Cr):Bool:=(((o.aT:Int) == 0) || (bits .andNot .u8 (o.aT:Int) (c.aT:Int) != 0)) || ((o.to:Int) == 0) || decide ((o.depth:Int)>=c.depth) || decide ((o.cap:Int)>c.cap)
theorem B2 (c:Cr)(o:ag){b b2 k:Nat}(hb:b<k)(HQ:b2<k)(hne:b≠b2):aF Tryz.prog tree_Tree_Why_5.f [.ptr b2 0,.ptr b 0] [(b2,.box 43 o.cells),(b,.box 158 c.cells)] k 0 (bl (iw o c)) [(b2,.box 43 o.cells),(b,.box 158 c.cells)]:=by
 refine SB.same ?_ (by simp[Hp.ok,Ob.ok,aa,hne]) (by simp[SV.au,SV.ok,aa,hne]) (λ _=>rfl);refine tree_Tree_Why_5.enter (by simp[SV.au,SV.ok];omega) (by simp[Hp.ok,Ob.ok];omega) (by simp) ?_;dsimp only[tree_Tree_Why_5.s,Co.M,Co.J,Co.H,Co.F,Co.B,Co.b8,Co.ay,Co.T,Co.D,Co.S];have f1:=bX hne;rcases h1:((o.aT:Int) == 0) with _|_
 .skip
  rcases h2:(bits .andNot .u8 (o.aT:Int) (c.aT:Int) != 0) with _|_
  .skip
   rcases h3:((o.to:Int) == 0) with _|_
   .skip
    rcases h4:decide ((o.depth:Int)>=c.depth) with _|_
    .skip
     (repeat (first|refine SW.seq ?_|refine SW.block ?_|refine SW.g0 eJ Zm (Zq h1 (Zq h2 (Zq h3 (Zq h4 f1)))) ?_|refine SW.skip ?_|refine SW.exit ?_|refine SW.ret ?_|refine SW.an rfl ?_|refine SW.ah rfl ?_));exact End.mk [(b2,.box 43 o.cells),(b,.box 158 c.cells)] (h3:=λ _ _ h=>h) (h4:=⟨by simp only[iw,h1,h2,h3,h4,Bool.false_or,Bool.or_false,Bool.true_or];rfl,rfl⟩) (h6:=by simp[Hp.ok,Ob.ok];omega)
    ·(repeat (first|refine SW.seq ?_|refine SW.block ?_|refine SW.g0 eJ Zm (Zq h1 (Zq h2 (Zq h3 (Zq h4 f1)))) ?_|refine SW.skip ?_|refine SW.exit ?_|refine SW.ret ?_|refine SW.an rfl ?_|refine SW.ah rfl ?_))
     exact End.mk [(b2,.box 43 o.cells),(b,.box 158 c.cells)] (h3:=λ _ _ h=>h) (h4:=⟨by simp only[iw,h1,h2,h3,h4,Bool.false_or,Bool.or_false,Bool.true_or];rfl,rfl⟩) (h6:=by simp[Hp.ok,Ob.ok];omega)
   ·(repeat (first|refine SW.seq ?_|refine SW.block ?_|refine SW.g0 eJ Zm (Zq h1 (Zq h2 (Zq h3 f1))) ?_|refine SW.skip ?_|refine SW.exit ?_|refine SW.ret ?_|refine SW.an rfl ?_|refine SW.ah rfl ?_))
    exact End.mk [(b2,.box 43 o.cells),(b,.box 158 c.cells)] (h3:=λ _ _ h=>h) (h4:=⟨by simp only[iw,h1,h2,h3,Bool.false_or,Bool.or_false,Bool.true_or];rfl,rfl⟩) (h6:=by simp[Hp.ok,Ob.ok];omega)
  ·(repeat (first|refine SW.seq ?_|refine SW.block ?_|refine SW.g0 eJ Zm (Zq h1 (Zq h2 f1)) ?_|refine SW.skip ?_|refine SW.exit ?_|refine SW.ret ?_|refine SW.an rfl ?_|refine SW.ah rfl ?_))
   exact End.mk [(b2,.box 43 o.cells),(b,.box 158 c.cells)] (h3:=λ _ _ h=>h) (h4:=⟨by simp only[iw,h1,h2,Bool.false_or,Bool.or_false,Bool.true_or];rfl,rfl⟩) (h6:=by simp[Hp.ok,Ob.ok];omega)
 ·(repeat (first|refine SW.seq ?_|refine SW.block ?_|refine SW.g0 eJ Zm (Zq h1 f1) ?_|refine SW.skip ?_|refine SW.exit ?_|refine SW.ret ?_|refine SW.an rfl ?_|refine SW.ah rfl ?_))
  exact End.mk [(b2,.box 43 o.cells),(b,.box 158 c.cells)] (h3:=λ _ _ h=>h) (h4:=⟨by simp only[iw,h1,Bool.false_or,Bool.or_false,Bool.true_or];rfl,rfl⟩) (h6:=by simp[Hp.ok,Ob.ok];omega)
end
end
end Go.Proofs.YtaelhkkjgfobhaaGreat
namespace Go.Proofs.YtaelhkkjgfobhaaGreat
open Go.Sl Go.Proofs
section
def Tr.wh (T:Tr)(there:Bool)(c:Cr)(o:ag)(b6 b5 b3 b2:Nat):Hp:=(b6,.box 4 [bl there])::(b5,.box 158 c.cells)::(b3,.box 43 o.cells)::(b2,.box 105 [.ptr T.bx 0])::T.hp
def Tr.by (T:Tr)(o:ag):Cr:=(MM.get T.at_ o.aN).getD Cr.zero
def Tr.is (T:Tr)(o:ag):Bool:=MM.has T.at_ o.aN
def Tr.vf (T:Tr)(o:ag):ag:=(MM.get T.made o.aN).getD ag.zero
def Tr.gV (T:Tr)(o:ag):Bool:=(!T.is o || !decide ((T.by o).aI=o.aI)) || !(T.vf o).before o
def Tr.why (T:Tr)(o:ag):Nat:=
 if o.kind≠1 then 2 else if T.gV o then 272 else if (T.by o).hold≠o.who then 273 else if bits .and .u8 ((T.by o).aT:Int) 1 == 0 then 274 else if iw o (T.by o) then 275 else 0
section
attribute [local irreducible] SW RW aF SC ai ak Tr.hp
variable {T:Tr} (hs:T.sep)
include hs in
theorem IK (o:ag){k n:Nat}(hlt:T.lt k)(hn:k+4<=n):aF Tryz.prog tree_Tree_Why_2.f [.ptr (k+3) 0,.ptr (k+2) 0,.ptr (k+1) 0,.ptr k 0] (T.wh (T.is o) (T.by o) o (k+3) (k+2) (k+1) k) n 0 (bl (T.gV o)) (T.wh (T.is o) (T.by o) o (k+3) (k+2) (k+1) k):=by
 have hb:=hlt.b;have ha:=hlt.a;have hmm:=hlt.m;have hok:∀ q:Nat->Bool,q (k+3)=true->q (k+2)=true->q (k+1)=true->q k=true->q T.bx=true->q T.ma=true->q T.mm=true->Hp.ok q (T.wh (T.is o) (T.by o) o (k+3) (k+2) (k+1) k)=true:=λ q h1 h2 h3 h4 h5 h6 h7=>
  ax h1 rfl (ax h2 (by simp[Ob.ok]) (ax h3 (by simp[Ob.ok]) (ax h4 (by simp[Ob.ok,SV.au,SV.ok,h5]) (Tr.OB h5 h6 h7))))
 have hl:∀ m,m=k+3\/m=k+2\/m=k+1\/m=k\/m=T.bx\/m=T.ma\/m=T.mm->(lk (T.wh (T.is o) (T.by o) o (k+3) (k+2) (k+1) k) m).isSome=true:=λ m hm=>by
  unfold Tr.wh
  repeat (rw[aa];split;· rfl)
  rcases hm with h|h|h|h|h|h|h
  .omega
  .omega
  .omega
  .omega
  .rw[h,T.KD];rfl
  .rw[h,Tr.M3 hs];rfl
  .rw[h,Tr.OY hs];rfl
 refine SB.same ?_ (hok _ (hl _ (by simp)) (hl _ (by simp)) (hl _ (by simp)) (hl _ (by simp)) (hl _ (by simp)) (hl _ (by simp)) (hl _ (by simp))) (by simp only[SV.au,SV.ok,hl _ (.inl rfl),hl _ (.inr (.inl rfl)),hl _ (.inr (.inr (.inl rfl))),hl _ (.inr (.inr (.inr (.inl rfl))))];rfl) (λ _=>rfl);have hokk:Hp.ok (λ m=>decide (m<n)) (T.wh (T.is o) (T.by o) o (k+3) (k+2) (k+1) k)=true:=hok _ (by simp;omega) (by simp;omega) (by simp;omega) (by simp;omega) (by simp;omega) (by simp;omega) (by simp;omega);refine tree_Tree_Why_2.enter (by simp[SV.au,SV.ok];omega) hokk (by simp) ?_;dsimp only[tree_Tree_Why_2.s,Co.M,Co.J,Co.H,Co.F,Co.C,Co.B,Co.bC,Co.T,Co.O,Co.S];have u1:List.lookup T.bx T.hp=some (.box 166 [.mp T.ma,.mp T.mm]):=T.KD;have u3:List.lookup T.mm T.hp=some T.om:=Tr.OY hs;have n1:=bX (show T.bx≠k+3 by omega);have n2:=bX (show T.bx≠k+2 by omega);have n3:=bX (show T.bx≠k+1 by omega);have n4:=bX (show T.bx≠k by omega);have m1:=bX (show T.mm≠k+3 by omega);have m2:=bX (show T.mm≠k+2 by omega);have m3:=bX (show T.mm≠k+1 by omega);have m4:=bX (show T.mm≠k by omega);have p1:=bX (show k+3≠k+2 by omega);have p2:=bX (show k+3≠k+1 by omega);have p3:=bX (show k+3≠k by omega);have p4:=bX (show k+2≠k+1 by omega);have p5:=bX (show k+2≠k by omega);have p6:=bX (show k+1≠k by omega);unfold Tr.wh at hokk ⊢;rcases h1:T.is o with _|_
 .rw[h1] at hokk
  (repeat (first|refine SW.seq ?_|refine SW.block ?_|(have fx:=(Zq n1 (Zq n2 (Zq n3 (Zq n4 (Zq p1 (Zq p2 (Zq p3 (Zq p4 (Zq p5 p6)))))))));refine SW.bG eg Zm ?_;(repeat (first|refine RW.ro fx (h:=?_)|refine RW.skip (h:=?_)|refine RW.op fx (h:=?_)|refine RW.di fx (h:=?_)|refine RW.aR (h:=?_)|(refine RW.aW (h:=?_);(first|refine ai.mk fx (hc:=kI _ _ _) (h:=?_)))));refine RW.nil ⟨by kernel_rfl,ak.mk (h:=?_)⟩)|refine SW.skip ?_|refine SW.exit ?_|refine SW.ret ?_|refine SW.an rfl ?_|refine SW.ah rfl ?_));exact End.mk _ (h3:=λ _ _ h=>h) (h4:=⟨by simp only[Tr.gV,h1];rfl,rfl⟩) (h6:=hokk)
 .rw[h1] at hokk
  rcases h2:decide ((T.by o).aI=o.aI) with _|_
  ·(repeat (first|refine SW.seq ?_|refine SW.block ?_|(have fx:=(Zq n1 (Zq n2 (Zq n3 (Zq n4 (Zq p1 (Zq p2 (Zq p3 (Zq p4 (Zq p5 (Zq p6 h2))))))))));refine SW.bG eg Zm ?_;(repeat (first|refine RW.ro fx (h:=?_)|refine RW.skip (h:=?_)|refine RW.op fx (h:=?_)|refine RW.di fx (h:=?_)|refine RW.aR (h:=?_)|(refine RW.aW (h:=?_);(first|refine ai.mk fx (hc:=kI _ _ _) (h:=?_)))));refine RW.nil ⟨by kernel_rfl,ak.mk (h:=?_)⟩)|refine SW.skip ?_|refine SW.exit ?_|refine SW.ret ?_|refine SW.an rfl ?_|refine SW.ah rfl ?_))
   exact End.mk _ (h3:=λ _ _ h=>h) (h4:=⟨by simp only[Tr.gV,h1,h2];rfl,rfl⟩) (h6:=hokk)
  .have e1:(MM.get T.made o.aN).getD ag.zero=T.vf o:=rfl
   have e2:((MM.get T.made o.aN).getD ag.zero).cells=(T.vf o).cells:=rfl;(repeat (first|refine SW.seq ?_|refine SW.block ?_|(have fx:=(Zq u1 (Zq u3 (Zq n1 (Zq n2 (Zq n3 (Zq n4 (Zq m1 (Zq m2 (Zq m3 (Zq m4 (Zq p1 (Zq p2 (Zq p3 (Zq p4 (Zq p5 (Zq p6 (Zq h2 e2)))))))))))))))));refine SW.bG eg Zm ?_;(repeat (first|refine RW.ro fx (h:=?_)|refine RW.skip (h:=?_)|refine RW.op fx (h:=?_)|refine RW.di fx (h:=?_)|refine RW.aR (h:=?_)|(refine RW.aW (h:=?_);(first|refine ai.mk fx (hc:=kI _ _ _) (h:=?_)))));refine RW.nil ⟨by kernel_rfl,ak.mk (h:=?_)⟩)|refine SW.skip ?_|refine SW.exit ?_|refine SW.ret ?_|refine SW.an rfl ?_|refine SW.ah rfl ?_));exact End.mk _ (h3:=λ _ _ h=>h) (h4:=⟨by simp only[Tr.gV,h1,h2];rfl,rfl⟩) (h6:=hokk)
end
abbrev jB (a:MM Dt Cr)(ca:Nat)(m:MM Dt ag)(cm:Nat):Tr:=⟨0,1,2,a,ca,m,cm⟩
abbrev gE (a:MM Dt Cr)(ca:Nat)(m:MM Dt ag)(cm:Nat):Hp:=[(0,.box 166 [.mp 1,.mp 2]),(1,.map (aq Dt.cells cv a) ca),(2,.map (aq Dt.cells ov m) cm)]
theorem pQ (a:MM Dt Cr)(ca:Nat)(m:MM Dt ag)(cm:Nat):(jB a ca m cm).sep:=⟨by show(1:Nat)≠0;decide,by show(2:Nat)≠0;decide,by show(1:Nat)≠2;decide⟩
theorem qD (a:MM Dt Cr)(ca:Nat)(m:MM Dt ag)(cm:Nat){k:Nat}(h:3<=k):(jB a ca m cm).lt k:=⟨by show 0<k;omega,by show 1<k;omega,by show 2<k;omega⟩
theorem dJ (a:MM Dt Cr)(ca:Nat)(m:MM Dt ag)(cm:Nat){k:Nat}(h:3<=k):(gE a ca m cm).ok (λ n=>decide (n<k))=true:=Tr.qK (qD a ca m cm h)
theorem lK (a:MM Dt Cr)(ca:Nat)(m:MM Dt ag)(cm:Nat){k:Nat}(h:3<=k):aF Tryz.prog tree_Tree_none.f [.ptr 0 0] (gE a ca m cm) k 0 (.d (.bool false)) (gE a ca m cm):=IJ (pQ a ca m cm) (qD a ca m cm h)
theorem Fe (a:MM Dt Cr)(ca:Nat)(m:MM Dt ag)(cm:Nat)(o:ag){n:Nat}(h:7<=n):
  aF Tryz.prog tree_Tree_Why_2.f [.ptr 6 0,.ptr 5 0,.ptr 4 0,.ptr 3 0] ((6,.box 4 [bl (MM.has a o.aN)])::(5,.box 158 ((MM.get a o.aN).getD Cr.zero).cells)::(4,.box 43 o.cells)::(3,.box 105 [.ptr 0 0])::gE a ca m cm) n 0 (bl ((jB a ca m cm).gV o))
   ((6,.box 4 [bl (MM.has a o.aN)])::(5,.box 158 ((MM.get a o.aN).getD Cr.zero).cells)::(4,.box 43 o.cells)::(3,.box 105 [.ptr 0 0])::gE a ca m cm):=IK (T:=jB a ca m cm) (pQ a ca m cm) o (k:=3) (qD a ca m cm (Nat.le_refl 3)) (by omega)
section
attribute [local irreducible] SW RW aF SC ai ak Tr.gV iw
def yp:List SV:=[.d (.int .i64 2),.fn (.func 166) [] [.ptr 4 0],.d (.int .i64 272),.fn (.func 167) [] [.ptr 6 0,.ptr 5 0,.ptr 4 0,.ptr 3 0],.d (.int .i64 273),.fn (.func 168) [] [.ptr 5 0,.ptr 4 0],.d (.int .i64 274),.fn (.func 169) [] [.ptr 5 0],.d (.int .i64 275),.fn (.func 170) [] [.ptr 4 0,.ptr 5 0]]
theorem Ff:List.take 2 yp=[.d (.int .i64 2),.fn (.func 166) [] [.ptr 4 0]]:=rfl
theorem Fg:List.take 2 (List.drop 2 yp)=[.d (.int .i64 272),.fn (.func 167) [] [.ptr 6 0,.ptr 5 0,.ptr 4 0,.ptr 3 0]]:=rfl
theorem Fi:List.take 2 (List.drop 4 yp)=[.d (.int .i64 273),.fn (.func 168) [] [.ptr 5 0,.ptr 4 0]]:=rfl
theorem Fj:List.take 2 (List.drop 6 yp)=[.d (.int .i64 274),.fn (.func 169) [] [.ptr 5 0]]:=rfl
theorem Fk:List.take 2 (List.drop 8 yp)=[.d (.int .i64 275),.fn (.func 170) [] [.ptr 4 0,.ptr 5 0]]:=rfl
theorem gJ:∀ (x y a b:SV),cq [x,y] 0 [a,b]=[a,b]:=λ _ _ _ _=>rfl
@[simp] theorem NH:yp.length=10:=rfl
theorem NI:∀ (x0 x1 x2 x3 x4 x5 x6 x7 x8 x9 a0 b0 a1 b1 a2 b2 a3 b3 a4 b4:SV),cq (cq (cq (cq (cq ([x0,x1,x2,x3,x4,x5,x6,x7,x8,x9]) 0 [a0,b0]) 2 [a1,b1]) 4 [a2,b2]) 6 [a3,b3]) 8 [a4,b4]=[a0,b0,a1,b1,a2,b2,a3,b3,a4,b4]:=λ _ _ _ _ _ _ _ _ _ _ _ _ _ _ _ _ _ _ _ _=>rfl
set_option maxHeartbeats 4000000 in
theorem LL (a:MM Dt Cr)(ca:Nat)(m:MM Dt ag)(cm:Nat)(o:ag):SB Tryz.prog tree_Tree_Why.f [.ptr 0 0,.agg o.cells] (gE a ca m cm) 3 4 (λ r F'=>r=i64 ((jB a ca m cm).why o)/\F'=gE a ca m cm):=by
 refine tree_Tree_Why.enter (by simp[SV.au,SV.ok]) (dJ a ca m cm (Nat.le_refl 3)) (by simp) ?_;dsimp only[tree_Tree_Why.s,Co.M,Co.J,Co.F,Co.Z,Co.b8,Co.ay,Co.bu,Co.i6,Co.T,Co.K,Co.E,Co.P,Co.x,Co.W,Co.Y,Co.D,Co.A,Co.S];have hend:∀ n,7<=n->Hp.ok (λ m=>decide (m<3+4)) (gE a ca m cm)=true:=λ n _=>dJ a ca m cm (by omega)
 refine SW.seq ?_
 (refine SW.bG cJ Zm ?_;(repeat (first|refine RW.ro af (h:=?_)|refine RW.skip (h:=?_)|refine RW.op af (h:=?_)|refine RW.di af (h:=?_)|refine RW.aR (h:=?_)|(refine RW.aW (h:=?_);(first|refine ai.mk af (hc:=lK a ca m cm (by omega)) (h:=?_)))));refine RW.nil ⟨by kernel_rfl,ak.mk (h:=?_)⟩)
 refine SW.seq (SW.seq ?_)
 (refine SW.bG cJ Zm ?_;(repeat (first|refine RW.ro af (h:=?_)|refine RW.skip (h:=?_)|refine RW.op af (h:=?_)|refine RW.di af (h:=?_)|refine RW.aR (h:=?_)|(refine RW.aW (h:=?_);(first|refine ai.mk af (hc:=lK a ca m cm (by omega)) (h:=?_)))));refine RW.nil ⟨by kernel_rfl,ak.mk (h:=?_)⟩)
 refine SW.ah rfl (SW.skip ?_);refine(?_:Sl.SW _ _ _ _ _ _);obtain⟨c,hc⟩:∃ c,(MM.get a o.aN).getD Cr.zero=c:=⟨_,rfl⟩;have q2:=Fe a ca m cm o (n:=8) (by omega);rw[hc] at q2;refine SW.seq (SW.g0 cJ Zm hc ?_);refine SW.seq (SW.seq ?_);have eR:[.d (.int .i64 2),.fn (.func 166) [] [.ptr 4 0],.d (.int .i64 272),.fn (.func 167) [] [.ptr 6 0,.ptr 5 0,.ptr 4 0,.ptr 3 0],.d (.int .i64 273),.fn (.func 168) [] [.ptr 5 0,.ptr 4 0],.d (.int .i64 274),.fn (.func 169) [] [.ptr 5 0],.d (.int .i64 275),.fn (.func 170) [] [.ptr 4 0,.ptr 5 0]]=yp:=rfl;refine SW.g0 cJ Zm (Zq zD (Zq NI eR)) ?_;refine SW.block ?_
 let H7:Hp:=(6,.box 4 [bl (MM.has a o.aN)])::(5,.box 158 c.cells)::(4,.box 43 o.cells)::(3,.box 105 [.ptr 0 0])::gE a ca m cm
 have hH:∀ n,7<=n->Hp.ok (λ m=>decide (m<n)) H7=true:=λ n hn=>ax (by simp;omega) rfl (ax (by simp;omega) (by simp[Ob.ok]) (ax (by simp;omega) (by simp[Ob.ok]) (ax (by simp;omega) (by simp[Ob.ok,SV.au,SV.ok];omega) (dJ a ca m cm (by omega)))))
 have hR:SV.au (λ n=>decide (n<7)) yp=true:=rfl
 let W:Bool->Bool->Bool->Bool->Bool->Nat->Prop:=λ r1 r2 r3 r4 r5 i=>(1<=i->r1=false)/\(2<=i->r2=false)/\(3<=i->r3=false)/\(4<=i->r4=false)/\(5<=i->r5=false)
 have hw:(jB a ca m cm).why o=if o.kind≠1 then 2 else if (jB a ca m cm).gV o then 272 else if c.hold≠o.who then 273 else if bits .and .u8 (c.aT:Int) 1 == 0 then 274 else if iw o c then 275 else 0:=by
  unfold Tr.why Tr.by
  rw[show(jB a ca m cm).at_=a from rfl,hc]
 refine SW.loop (α:={i:Nat // i<=5/\W (decide (o.kind≠1)) ((jB a ca m cm).gV o) (decide (c.hold≠o.who)) (bits .and .u8 (c.aT:Int) 1 == 0) (iw o c) i}) (λ i=>⟨[(32,i64 i.1),(31,.agg yp)],(6,.box 4 [bl (MM.has a o.aN)])::(5,.box 158 c.cells)::(4,.box 43 o.cells)::(3,.box 105 [.ptr 0 0])::[(0,.box 166 [.mp 1,.mp 2]),(1,.map (aq Dt.cells cv a) ca),(2,.map (aq Dt.cells ov m) cm)],7⟩) (λ i=>5 - i.1) ⟨0,by omega,by simp[W]⟩ id ?_ ?_
 .exact aH.same (by simp) (by simp[aL,List.lookup,SV.aC,SV.bS,SV.ok,hR]) (hH 7 (by omega)) (aK (by simp[H7]))
 rintro⟨i,hi,w1,w2,w3,w4,w5⟩;have hdrop:∀ (x:Nat×Ob) (o2:Ob),x∈H7->lk ((7,o2)::H7) x.1=some x.2:=λ x o2 hx=>by
  have hl:=aK (h:=H7) (by simp[H7]) x hx;rw[aa,if_neg ?_]
  .exact hl
  .intro e
   have:=(Hp.fC (hH 7 (by omega)) hl).1;simp at this;omega
 have hsub:∀ o2:Ob,HSub (gE a ca m cm) ((7,o2)::H7):=λ o2 n ob hn=>by
  have h3:n<3:=by
   have:=(Hp.fC (dJ a ca m cm (Nat.le_refl 3)) hn).1
   simpa using this
  show lk ((7,o2)::(6,_)::(5,_)::(4,_)::(3,_)::gE a ca m cm) n=some ob;rw[aa,if_neg (by omega),aa,if_neg (by omega),aa,if_neg (by omega),aa,if_neg (by omega),aa,if_neg (by omega)];exact hn
 have hsub7:HSub (gE a ca m cm) H7:=λ n ob hn=>by
  have h3:n<3:=by
   have:=(Hp.fC (dJ a ca m cm (Nat.le_refl 3)) hn).1
   simpa using this
  show lk ((6,_)::(5,_)::(4,_)::(3,_)::gE a ca m cm) n=some ob;rw[aa,if_neg (by omega),aa,if_neg (by omega),aa,if_neg (by omega),aa,if_neg (by omega)];exact hn
 match i,hi,w1,w2,w3,w4,w5 with
 | 0,_,_,_,_,_,_=>
  rcases(Bool.eq_false_or_eq_true (decide (o.kind≠1))).symm with h0|h0
  .have con:=BZ o (b:=4) (k:=8) (by omega)
   rw[h0] at con;(repeat (first|refine SW.seq ?_|refine SW.block ?_|refine SW.g1 cJ Zm (Zq Ff gJ) con ?_|refine SW.skip ?_|refine SW.exit ?_|refine SW.ret ?_|refine SW.an rfl ?_|refine SW.ah rfl ?_));refine⟨⟨1,by omega,λ _=>h0,λ h=>absurd h (by omega),λ h=>absurd h (by omega),λ h=>absurd h (by omega),λ h=>absurd h (by omega)⟩,id,by dsimp only;omega,?_⟩;exact aH.same (by simp) (by simp[aL,List.lookup,SV.aC,SV.bS,SV.ok,hR]) (hH 7 (by omega)) (λ x hx=>hdrop x _ hx)
  .have con:=BZ o (b:=4) (k:=8) (by omega)
   rw[h0] at con;(repeat (first|refine SW.seq ?_|refine SW.block ?_|refine SW.g1 cJ Zm (Zq Ff gJ) con ?_|refine SW.skip ?_|refine SW.exit ?_|refine SW.ret ?_|refine SW.an rfl ?_|refine SW.ah rfl ?_));exact End.mk (gE a ca m cm) (h3:=hsub _) (h4:=⟨by rw[hw];rw[if_pos (by simpa using h0)];rfl,rfl⟩) (h6:=dJ a ca m cm (by omega))
 | 1,_,w1,_,_,_,_=>
  have z1:=w1 (by omega);rcases(Bool.eq_false_or_eq_true ((jB a ca m cm).gV o)).symm with h0|h0
  .have con:=q2
   rw[h0] at con;(repeat (first|refine SW.seq ?_|refine SW.block ?_|refine SW.g1 cJ Zm (Zq Fg gJ) con ?_|refine SW.skip ?_|refine SW.exit ?_|refine SW.ret ?_|refine SW.an rfl ?_|refine SW.ah rfl ?_));refine⟨⟨2,by omega,λ _=>z1,λ _=>h0,λ h=>absurd h (by omega),λ h=>absurd h (by omega),λ h=>absurd h (by omega)⟩,id,by dsimp only;omega,?_⟩;exact aH.same (by simp) (by simp[aL,List.lookup,SV.aC,SV.bS,SV.ok,hR]) (hH 7 (by omega)) (λ x hx=>hdrop x _ hx)
  .have con:=q2
   rw[h0] at con;(repeat (first|refine SW.seq ?_|refine SW.block ?_|refine SW.g1 cJ Zm (Zq Fg gJ) con ?_|refine SW.skip ?_|refine SW.exit ?_|refine SW.ret ?_|refine SW.an rfl ?_|refine SW.ah rfl ?_));exact End.mk (gE a ca m cm) (h3:=hsub _) (h4:=⟨by rw[hw];rw[if_neg (by simpa using z1)];rw[if_pos (by simpa using h0)];rfl,rfl⟩) (h6:=dJ a ca m cm (by omega))
 | 2,_,w1,w2,_,_,_=>
  have z1:=w1 (by omega);have z2:=w2 (by omega);rcases(Bool.eq_false_or_eq_true (decide (c.hold≠o.who))).symm with h0|h0
  .have con:=B0 c o (b:=5) (b2:=4) (k:=8) (by omega) (by omega) (by omega)
   rw[h0] at con;(repeat (first|refine SW.seq ?_|refine SW.block ?_|refine SW.g1 cJ Zm (Zq Fi gJ) con ?_|refine SW.skip ?_|refine SW.exit ?_|refine SW.ret ?_|refine SW.an rfl ?_|refine SW.ah rfl ?_));refine⟨⟨3,by omega,λ _=>z1,λ _=>z2,λ _=>h0,λ h=>absurd h (by omega),λ h=>absurd h (by omega)⟩,id,by dsimp only;omega,?_⟩;exact aH.same (by simp) (by simp[aL,List.lookup,SV.aC,SV.bS,SV.ok,hR]) (hH 7 (by omega)) (λ x hx=>hdrop x _ hx)
  .have con:=B0 c o (b:=5) (b2:=4) (k:=8) (by omega) (by omega) (by omega)
   rw[h0] at con;(repeat (first|refine SW.seq ?_|refine SW.block ?_|refine SW.g1 cJ Zm (Zq Fi gJ) con ?_|refine SW.skip ?_|refine SW.exit ?_|refine SW.ret ?_|refine SW.an rfl ?_|refine SW.ah rfl ?_));exact End.mk (gE a ca m cm) (h3:=hsub _) (h4:=⟨by rw[hw];rw[if_neg (by simpa using z1)];rw[if_neg (by simpa using z2)];rw[if_pos (by simpa using h0)];rfl,rfl⟩) (h6:=dJ a ca m cm (by omega))
 | 3,_,w1,w2,w3,_,_=>
  have z1:=w1 (by omega);have z2:=w2 (by omega);have z3:=w3 (by omega);rcases(Bool.eq_false_or_eq_true ((bits .and .u8 (c.aT:Int) 1 == 0))).symm with h0|h0
  .have con:=B1 c (b:=5) (k:=8) (by omega)
   rw[h0] at con;(repeat (first|refine SW.seq ?_|refine SW.block ?_|refine SW.g1 cJ Zm (Zq Fj gJ) con ?_|refine SW.skip ?_|refine SW.exit ?_|refine SW.ret ?_|refine SW.an rfl ?_|refine SW.ah rfl ?_));refine⟨⟨4,by omega,λ _=>z1,λ _=>z2,λ _=>z3,λ _=>h0,λ h=>absurd h (by omega)⟩,id,by dsimp only;omega,?_⟩;exact aH.same (by simp) (by simp[aL,List.lookup,SV.aC,SV.bS,SV.ok,hR]) (hH 7 (by omega)) (λ x hx=>hdrop x _ hx)
  .have con:=B1 c (b:=5) (k:=8) (by omega)
   rw[h0] at con;(repeat (first|refine SW.seq ?_|refine SW.block ?_|refine SW.g1 cJ Zm (Zq Fj gJ) con ?_|refine SW.skip ?_|refine SW.exit ?_|refine SW.ret ?_|refine SW.an rfl ?_|refine SW.ah rfl ?_));exact End.mk (gE a ca m cm) (h3:=hsub _) (h4:=⟨by rw[hw];rw[if_neg (by simpa using z1)];rw[if_neg (by simpa using z2)];rw[if_neg (by simpa using z3)];rw[if_pos (by simpa using h0)];rfl,rfl⟩) (h6:=dJ a ca m cm (by omega))
 | 4,_,w1,w2,w3,w4,_=>
  have z1:=w1 (by omega);have z2:=w2 (by omega);have z3:=w3 (by omega);have z4:=w4 (by omega);rcases(Bool.eq_false_or_eq_true (iw o c)).symm with h0|h0
  .have con:=B2 c o (b:=5) (b2:=4) (k:=8) (by omega) (by omega) (by omega)
   rw[h0] at con;(repeat (first|refine SW.seq ?_|refine SW.block ?_|refine SW.g1 cJ Zm (Zq Fk gJ) con ?_|refine SW.skip ?_|refine SW.exit ?_|refine SW.ret ?_|refine SW.an rfl ?_|refine SW.ah rfl ?_));refine⟨⟨5,by omega,λ _=>z1,λ _=>z2,λ _=>z3,λ _=>z4,λ _=>h0⟩,id,by dsimp only;omega,?_⟩;exact aH.same (by simp) (by simp[aL,List.lookup,SV.aC,SV.bS,SV.ok,hR]) (hH 7 (by omega)) (λ x hx=>hdrop x _ hx)
  .have con:=B2 c o (b:=5) (b2:=4) (k:=8) (by omega) (by omega) (by omega)
   rw[h0] at con;(repeat (first|refine SW.seq ?_|refine SW.block ?_|refine SW.g1 cJ Zm (Zq Fk gJ) con ?_|refine SW.skip ?_|refine SW.exit ?_|refine SW.ret ?_|refine SW.an rfl ?_|refine SW.ah rfl ?_));exact End.mk (gE a ca m cm) (h3:=hsub _) (h4:=⟨by rw[hw];rw[if_neg (by simpa using z1)];rw[if_neg (by simpa using z2)];rw[if_neg (by simpa using z3)];rw[if_neg (by simpa using z4)];rw[if_pos (by simpa using h0)];rfl,rfl⟩) (h6:=dJ a ca m cm (by omega))
 | 5,_,w1,w2,w3,w4,w5=>
  have z1:=w1 (by omega);have z2:=w2 (by omega);have z3:=w3 (by omega);have z4:=w4 (by omega);have z5:=w5 (by omega);(repeat (first|refine SW.seq ?_|refine SW.block ?_|refine SW.g0 cJ Zm af ?_|refine SW.skip ?_|refine SW.exit ?_|refine SW.ret ?_|refine SW.an rfl ?_|refine SW.ah rfl ?_));exact End.mk (gE a ca m cm) (h3:=hsub7) (h4:=⟨by rw[hw];rw[if_neg (by simpa using z1)];rw[if_neg (by rw[z2];simp)];rw[if_neg (by simpa using z3)];rw[if_neg (by simpa using z4)];rw[if_neg (by simpa using z5)];rfl,rfl⟩) (h6:=dJ a ca m cm (by omega))
end
end
section
theorem od (T:Tr)(k:Nat):Hp.aC (fz [T.bx,T.ma,T.mm] k) (gE T.at_ T.ca T.made T.cm)=T.hp:=by
 simp only[Hp.aC,gE,List.map_cons,List.map_nil,Ob.aC,SV.aU,SV.aC,jY,cQ,Tr.hp];rfl
theorem Tr.NJ {T:Tr}(h:T.sep):([T.bx,T.ma,T.mm]:List Nat).Nodup:=Tr.nd h
theorem sL (a:MM Dt Cr)(ca:Nat)(m:MM Dt ag)(cm:Nat):∀ i,i<3->lk (gE a ca m cm) i≠none:=λ i hi=>by
 rcases(show i=0\/i=1\/i=2 by omega) with rfl|rfl|rfl<;>simp[aa]
theorem Fl {T:Tr}(hs:T.sep)(o:ag)(k:Nat):aF Tryz.prog tree_Tree_Why.f [.ptr T.bx 0,.agg o.cells] T.hp k 4 (i64 (T.why o)) T.hp:=by
 have h:=SB.nB [T.bx,T.ma,T.mm] (LL T.at_ T.ca T.made T.cm o) (Tr.NJ hs) (sL _ _ _ _) k;rw[od] at h;simp only[SV.aU,SV.aC,ag.aA] at h;exact h
section
attribute [local irreducible] SW RW aF SC ai ak
theorem LM (a:MM Dt Cr)(ca:Nat)(m:MM Dt ag)(cm:Nat)(d:Dt):SB Tryz.prog tree_Tree_Get.f [.ptr 0 0,.agg d.cells] (gE a ca m cm) 3 3 (λ r F'=>r= .de [.agg ((MM.get a d).getD Cr.zero).cells,i64 (if MM.has a d then 0 else 7)]/\F'=gE a ca m cm):=by
 refine tree_Tree_Get.enter (by simp[SV.au,SV.ok]) (dJ a ca m cm (Nat.le_refl 3)) (by simp) ?_;dsimp only[tree_Tree_Get.s,Co.M,Co.J,Co.F,Co.Z,Co.b8,Co.ay,Co.bu,Co.i6,Co.T,Co.K,Co.E,Co.P,Co.x,Co.W,Co.O,Co.D,Co.A,Co.S];rcases hh:MM.has a d with _|_
 ·(repeat (first|refine SW.seq ?_|refine SW.block ?_|(refine SW.bG [0,1,3,4,5,6,7,9,21] Zm ?_;(repeat (first|refine RW.ro hh (h:=?_)|refine RW.skip (h:=?_)|refine RW.op hh (h:=?_)|refine RW.di hh (h:=?_)|refine RW.aR (h:=?_)|(refine RW.aW (h:=?_);(first|refine ai.mk (hh) (hc:=lK a ca m cm (by omega)) (h:=?_)))));refine RW.nil ⟨by kernel_rfl,ak.mk (h:=?_)⟩)|refine SW.skip ?_|refine SW.exit ?_|refine SW.ret ?_|refine SW.an rfl ?_|refine SW.ah rfl ?_))
  have e:MM.get a d=none:=by simpa[MM.has] using hh
  rw[e];refine End.mk (gE a ca m cm) (h4:=⟨rfl,rfl⟩) (h6:=dJ a ca m cm (by omega))
 ·(repeat (first|refine SW.seq ?_|refine SW.block ?_|(refine SW.bG [0,1,3,4,5,6,7,9,21] Zm ?_;(repeat (first|refine RW.ro hh (h:=?_)|refine RW.skip (h:=?_)|refine RW.op hh (h:=?_)|refine RW.di hh (h:=?_)|refine RW.aR (h:=?_)|(refine RW.aW (h:=?_);(first|refine ai.mk (hh) (hc:=lK a ca m cm (by omega)) (h:=?_)))));refine RW.nil ⟨by kernel_rfl,ak.mk (h:=?_)⟩)|refine SW.skip ?_|refine SW.exit ?_|refine SW.ret ?_|refine SW.an rfl ?_|refine SW.ah rfl ?_))
  refine End.mk (gE a ca m cm) (h4:=⟨rfl,rfl⟩) (h6:=dJ a ca m cm (by omega))
theorem get_at {T:Tr}(hs:T.sep)(d:Dt)(k:Nat):aF Tryz.prog tree_Tree_Get.f [.ptr T.bx 0,.agg d.cells] T.hp k 3 (.de [.agg ((MM.get T.at_ d).getD Cr.zero).cells,i64 (if MM.has T.at_ d then 0 else 7)]) T.hp:=by
 have h:=SB.nB [T.bx,T.ma,T.mm] (LM T.at_ T.ca T.made T.cm d) (Tr.NJ hs) (sL _ _ _ _) k;rw[od] at h;simp only[SV.aU,SV.aC,Dt.aA,Cr.aA] at h;exact h
end
@[simp] theorem OZ (d:Dt):(cq Cr.zero.cells 0 d.cells).length=11:=rfl
@[simp] theorem O0 (d e:Dt):(cq (cq Cr.zero.cells 0 d.cells) 2 e.cells).length=11:=rfl
@[simp] theorem O1 (d e f:Dt):(cq (cq (cq Cr.zero.cells 0 d.cells) 2 e.cells) 4 f.cells).length=11:=rfl
def vg (o:ag):Cr:=⟨o.dot,o.dot,⟨0,0⟩,o.who,7,8,1099511627776,0⟩
def A_ (T:Tr)(o:ag):Cr:=⟨o.dot,o.aI,o.aN,o.to,o.aT,o.depth,o.cap,IntKind.i64.wrap ((T.by o).level+1)⟩
def Tr.bT (T:Tr)(o:ag):Bool:=(decide (o.kind=0) && !decide (o.aI=o.dot)) || (decide (o.kind=1) && decide (T.why o≠0))
def Tr.oO (T:Tr)(o:ag):Cr:=if o.kind=1 then A_ T o else vg o
def Tr.put (T:Tr)(o:ag):Tr×Bool:=if T.bT o then (T,false) else
 ({ T with at_:=MM.put T.at_ T.ca o.dot (T.oO o),ca:=MM.jA T.at_ T.ca o.dot,made:=MM.put T.made T.cm o.dot o,cm:=MM.jA T.made T.cm o.dot},true)
theorem mR (d:Dt)(who:Nat):cq (cq (cq (cq (cq (cq Cr.zero.cells 0 d.cells) 2 d.cells) 6 [.d (.int .u32 (who:Int))]) 7 [.d (.int .u8 7)]) 8 [.d (.int .u8 8)]) 9 [.d (.int .u64 1099511627776)]=(⟨d,d,⟨0,0⟩,who,7,8,1099511627776,0⟩:Cr).cells:=rfl
theorem qE (d e f:Dt)(a b c g:Nat)(l:Int):cq (cq (cq (cq (cq (cq (cq (cq Cr.zero.cells 0 d.cells) 2 e.cells) 4 f.cells) 6 [.d (.int .u32 (a:Int))]) 7 [.d (.int .u8 (b:Int))]) 8 [.d (.int .u8 (c:Int))]) 9 [.d (.int .u64 (g:Int))]) 10 [.d (.int .i64 l)]=(⟨d,e,f,a,b,c,g,l⟩:Cr).cells:=rfl
section
attribute [local irreducible] SW RW aF SC ai ak Tr.why
set_option maxHeartbeats 4000000 in
theorem LN (a:MM Dt Cr)(ca:Nat)(m:MM Dt ag)(cm:Nat)(hw1:MM.wf a ca)(M4:MM.wf m cm)(o:ag):
  SB Tryz.prog tree_Tree_put.f [.ptr 0 0,.agg o.cells] (gE a ca m cm) 3 2 (λ r F'=>r=bl ((jB a ca m cm).put o).2/\F'=gE ((jB a ca m cm).put o).1.at_ ((jB a ca m cm).put o).1.ca ((jB a ca m cm).put o).1.made ((jB a ca m cm).put o).1.cm):=by
 refine tree_Tree_put.enter (by simp[SV.au,SV.ok]) (dJ a ca m cm (Nat.le_refl 3)) (by simp) ?_;dsimp only[tree_Tree_put.s,Co.M,Co.G,Co.J,Co.H,Co.N,Co.F,Co.C,Co.Z,Co.B,Co.b8,Co.ay,Co.bu,Co.i6,Co.bC,Co.T,Co.K,Co.E,Co.x,Co.W,Co.Y,Co.U,Co.D,Co.A,Co.S];obtain⟨W,hW⟩:∃ W,(jB a ca m cm).why o=W:=⟨_,rfl⟩;have cw:aF Tryz.prog tree_Tree_Why.f [.ptr 0 0,.agg o.cells] (gE a ca m cm) 5 4 (i64 W) (gE a ca m cm):=by
  rw[<- hW];exact Fl (pQ a ca m cm) o 5
 refine SW.seq ?_
 (refine SW.bG ge Zm ?_;(repeat (first|refine RW.ro af (h:=?_)|refine RW.skip (h:=?_)|refine RW.op af (h:=?_)|refine RW.di af (h:=?_)|refine RW.aR (h:=?_)|(refine RW.aW (h:=?_);(first|refine ai.mk af (hc:=lK a ca m cm (by omega)) (h:=?_)))));refine RW.nil ⟨by kernel_rfl,ak.mk (h:=?_)⟩)
 refine SW.seq ?_
 (refine SW.bG ge Zm ?_;(repeat (first|refine RW.ro mR (h:=?_)|refine RW.skip (h:=?_)|refine RW.op mR (h:=?_)|refine RW.di mR (h:=?_)|refine RW.aR (h:=?_)|(refine RW.aW (h:=?_);(first|refine ai.mk (mR) (hc:=lK a ca m cm (by omega)) (h:=?_)))));refine RW.nil ⟨by kernel_rfl,ak.mk (h:=?_)⟩)
 refine SW.seq ?_;have ok9:∀ (a':MM Dt Cr) ca' (m':MM Dt ag) cm',Hp.ok (λ x=>decide (x<3+2)) (gE a' ca' m' cm')=true:=λ a' ca' m' cm'=>dJ a' ca' m' cm' (by omega)
 have hR:∀ v,(jB a ca m cm).bT o=v->((decide (o.kind=0) && !decide (o.aI=o.dot)) || (decide (o.kind=1) && decide (W≠0)))=v:=λ v h=>by rw[<- h];unfold Tr.bT;rw[hW]
 have k0:(((o.kind:Nat):Int) == 0)=decide (o.kind=0):=by rw[Bool.eq_iff_iff];simp only[beq_iff_eq,decide_eq_true_eq];omega
 have k1:(((o.kind:Nat):Int) == 1)=decide (o.kind=1):=by rw[Bool.eq_iff_iff];simp only[beq_iff_eq,decide_eq_true_eq];omega
 have kW:(((W:Nat):Int) != 0)=decide (W≠0):=by rw[Bool.eq_iff_iff];simp only[bne_iff_ne,decide_eq_true_eq];omega
 have fe1:=t_ (vs:=cv) (kc:=Dt.cells) hw1 o.dot Cr.zero;have fe2:=t_ (vs:=ov) (kc:=Dt.cells) M4 o.dot ag.zero;have gb:=λ l=>qE o.dot o.aI o.aN o.to o.aT o.depth o.cap l
 have ee:(MM.get a o.aN).getD Cr.zero=(jB a ca m cm).by o:=rfl
 -- it is refused
 have fin0:∀ env,(jB a ca m cm).bT o=true->(env:List (Nat×SV)).lookup 4=some (bl false)->∀ X:Hp,HSub (gE a ca m cm) X->∀ K,5<=K->Sl.Fin 3 2 tree_Tree_put.rv (λ r F'=>r=bl ((jB a ca m cm).put o).2/\F'=gE ((jB a ca m cm).put o).1.at_ ((jB a ca m cm).put o).1.ca ((jB a ca m cm).put o).1.made ((jB a ca m cm).put o).1.cm) ⟨env,X,K⟩:=λ env hr he X hX K hK=>by
  have e:(jB a ca m cm).put o=(jB a ca m cm,false):=by unfold Tr.put;rw[if_pos hr]
  rw[e];exact End.mk (ss:=[bl false]) (ob:=True) (gE a ca m cm) (h1:=by simp[tree_Tree_put.rv,CC,he]) (h2:=trivial) (h3:=hX) (h4:=⟨rfl,rfl⟩) (h5:=rfl) (h6:=ok9 _ _ _ _) (h7:=by simpa using hK)
 rcases(Bool.eq_false_or_eq_true (decide (o.kind=0))).symm with d0|d0
 .rcases(Bool.eq_false_or_eq_true (decide (o.kind=1))).symm with d1|d1
  .skip
   have hr:(jB a ca m cm).bT o=false:=by unfold Tr.bT;rw[hW,d0,d1];rfl
   have e:(jB a ca m cm).put o=(({ jB a ca m cm with at_:=MM.put a ca o.dot (vg o),ca:=MM.jA a ca o.dot,made:=MM.put m cm o.dot o,cm:=MM.jA m cm o.dot}:Tr),true):=by
    unfold Tr.put Tr.oO;rw[if_neg (by rw[hr];simp),if_neg (by simpa using d1)]
   rw[e];(repeat (first|refine SW.seq ?_|refine SW.block ?_|refine SW.g1 ge Zm (Zq k0 (Zq k1 (Zq kW (Zq d0 (Zq d1 (Zq fe1 fe2)))))) cw ?_|refine SW.skip ?_|refine SW.exit ?_|refine SW.ret ?_|refine SW.an rfl ?_|refine SW.ah rfl ?_));exact End.mk (gE _ _ _ _) (h4:=⟨rfl,rfl⟩) (h6:=ok9 _ _ _ _)
  .rcases(Bool.eq_false_or_eq_true (decide (W≠0))).symm with dW|dW
   .skip
    have hr:(jB a ca m cm).bT o=false:=by unfold Tr.bT;rw[hW,d0,d1,dW];rfl
    have e:(jB a ca m cm).put o=(({ jB a ca m cm with at_:=MM.put a ca o.dot (A_ (jB a ca m cm) o),ca:=MM.jA a ca o.dot,made:=MM.put m cm o.dot o,cm:=MM.jA m cm o.dot}:Tr),true):=by
     unfold Tr.put Tr.oO;rw[if_neg (by rw[hr];simp),if_pos (by simpa using d1)]
    rw[e];(repeat (first|refine SW.seq ?_|refine SW.block ?_|refine SW.g1 ge Zm (Zq k0 (Zq k1 (Zq kW (Zq d0 (Zq d1 (Zq dW (Zq gb (Zq ee (Zq fe1 fe2))))))))) cw ?_|refine SW.skip ?_|refine SW.exit ?_|refine SW.ret ?_|refine SW.an rfl ?_|refine SW.ah rfl ?_));exact End.mk (gE _ _ _ _) (h4:=⟨rfl,rfl⟩) (h6:=ok9 _ _ _ _)
   .have hr:(jB a ca m cm).bT o=true:=by unfold Tr.bT;rw[hW,d0,d1,dW];rfl
    (repeat (first|refine SW.seq ?_|refine SW.block ?_|refine SW.g1 ge Zm (Zq k0 (Zq k1 (Zq kW (Zq d0 (Zq d1 dW))))) cw ?_|refine SW.skip ?_|refine SW.exit ?_|refine SW.ret ?_|refine SW.an rfl ?_|refine SW.ah rfl ?_));exact fin0 _ hr rfl _ (by repeat (first|exact HSub.nil _|refine HSub.cons (by rfl) ?_)) _ (by simp)
 .rcases(Bool.eq_false_or_eq_true (decide (o.aI=o.dot))).symm with dc|dc
  .have hr:(jB a ca m cm).bT o=true:=by unfold Tr.bT;rw[d0,dc];rfl
   (repeat (first|refine SW.seq ?_|refine SW.block ?_|refine SW.g1 ge Zm (Zq k0 (Zq k1 (Zq kW (Zq d0 dc)))) cw ?_|refine SW.skip ?_|refine SW.exit ?_|refine SW.ret ?_|refine SW.an rfl ?_|refine SW.ah rfl ?_));exact fin0 _ hr rfl _ (by repeat (first|exact HSub.nil _|refine HSub.cons (by rfl) ?_)) _ (by simp)
  .have d1:decide (o.kind=1)=false:=by simp at d0 ⊢;omega
   have hr:(jB a ca m cm).bT o=false:=by unfold Tr.bT;rw[d0,d1,dc];rfl
   have e:(jB a ca m cm).put o=(({ jB a ca m cm with at_:=MM.put a ca o.dot (vg o),ca:=MM.jA a ca o.dot,made:=MM.put m cm o.dot o,cm:=MM.jA m cm o.dot}:Tr),true):=by
    unfold Tr.put Tr.oO;rw[if_neg (by rw[hr];simp),if_neg (by simpa using d1)]
   rw[e];(repeat (first|refine SW.seq ?_|refine SW.block ?_|refine SW.g1 ge Zm (Zq k0 (Zq k1 (Zq kW (Zq d0 (Zq d1 (Zq dc (Zq fe1 fe2))))))) cw ?_|refine SW.skip ?_|refine SW.exit ?_|refine SW.ret ?_|refine SW.an rfl ?_|refine SW.ah rfl ?_));exact End.mk (gE _ _ _ _) (h4:=⟨rfl,rfl⟩) (h6:=ok9 _ _ _ _)
end
end
section
theorem Tr.put_eq (T:Tr)(o:ag):T.put o=({ T with at_:=((jB T.at_ T.ca T.made T.cm).put o).1.at_,ca:=((jB T.at_ T.ca T.made T.cm).put o).1.ca,made:=((jB T.at_ T.ca T.made T.cm).put o).1.made,cm:=((jB T.at_ T.ca T.made T.cm).put o).1.cm},((jB T.at_ T.ca T.made T.cm).put o).2):=by
 have e:T.bT o=(jB T.at_ T.ca T.made T.cm).bT o:=rfl;have e2:T.oO o=(jB T.at_ T.ca T.made T.cm).oO o:=rfl;unfold Tr.put;rw[e]
 by_cases h:(jB T.at_ T.ca T.made T.cm).bT o=true
 .rw[if_pos h,if_pos h]
 .rw[if_neg h,if_neg h,e2]
theorem Tr.sM (T:Tr)(o:ag):(T.put o).1.bx=T.bx/\(T.put o).1.ma=T.ma/\(T.put o).1.mm=T.mm:=by rw[Tr.put_eq];exact⟨rfl,rfl,rfl⟩
theorem LO {T:Tr}(hs:T.sep)(hw1:MM.wf T.at_ T.ca)(M4:MM.wf T.made T.cm)(o:ag)(k:Nat):aF Tryz.prog tree_Tree_put.f [.ptr T.bx 0,.agg o.cells] T.hp k 2 (bl (T.put o).2) (T.put o).1.hp:=by
 have h:=SB.nB [T.bx,T.ma,T.mm] (LN T.at_ T.ca T.made T.cm hw1 M4 o) (Tr.NJ hs) (sL _ _ _ _) k;rw[od] at h;have h2:=od (T.put o).1 k;obtain⟨n1,n2,n3⟩:=T.sM o;rw[n1,n2,n3] at h2;have e:=T.put_eq o;simp only[SV.aU,SV.aC,ag.aA] at h;rw[<- h2];rw[e];exact h
theorem Tr.Fm {T:Tr}(hw1:MM.wf T.at_ T.ca)(M4:MM.wf T.made T.cm)(o:ag):MM.wf (T.put o).1.at_ (T.put o).1.ca/\MM.wf (T.put o).1.made (T.put o).1.cm:=by
 unfold Tr.put
 split
 .exact⟨hw1,M4⟩
 .exact⟨MM.gB hw1 _ _,MM.gB M4 _ _⟩
structure mG (b a m:Nat) where
 T:Tr
 e1:T.bx=b
 e2:T.ma=a
 e3:T.mm=m
def mG.step {b a m:Nat}(s:mG b a m)(o:ag):mG b a m×Bool:=(⟨(s.T.put o).1,(s.T.sM o).1.trans s.e1,(s.T.sM o).2.1.trans s.e2,(s.T.sM o).2.2.trans s.e3⟩,(s.T.put o).2)
theorem IL {b a m:Nat}(h1:a≠b)(h2:m≠b)(h3:a≠m)(B:Nat):
  xu Tryz.prog 123 [.ptr b 0] [] (λ s:mG b a m=>s.T.hp) mG.step 2 (λ _ s=>MM.wf s.T.at_ s.T.ca/\MM.wf s.T.made s.T.cm) (λ _=>True) B where
 nd s:=Tr.nd ⟨by rw[s.e1,s.e2];exact h1,by rw[s.e1,s.e3];exact h2,by rw[s.e2,s.e3];exact h3⟩
 nm s x:=by
  obtain⟨n1,n2,n3⟩:=s.T.sM x;show((s.T.put x).1.hp).map (·.1)=s.T.hp.map (·.1);rw[Tr.names,Tr.names,n1,n2,n3]
 nx i s x hI _ _:=Tr.Fm hI.1 hI.2 x
 ok s x q h:=by
  obtain⟨n1,n2,n3⟩:=s.T.sM x;simp only[Hp.ok,List.all_eq_true,Bool.and_eq_true] at h;have hm:∀ n,n∈s.T.hp.map (·.1)->q n=true:=λ n hn=>by
   obtain⟨y,hy,rfl⟩:=List.mem_map.1 hn;exact(h y hy).1
  rw[Tr.names] at hm;exact Tr.OB (by rw[show(s.step x).1.T.bx=s.T.bx from n1];exact hm _ (by simp)) (by rw[show(s.step x).1.T.ma=s.T.ma from n2];exact hm _ (by simp)) (by rw[show(s.step x).1.T.mm=s.T.mm from n3];exact hm _ (by simp))
 call i s x k hI _ _ _:=by
  have:=LO (T:=s.T) ⟨by rw[s.e1,s.e2];exact h1,by rw[s.e1,s.e3];exact h2,by rw[s.e2,s.e3];exact h3⟩ hI.1 hI.2 x k;rw[s.e1] at this;exact this
 a1 s q h:=by
  simp only[Hp.ok,List.all_eq_true,Bool.and_eq_true] at h;have:=(h (s.T.bx,_) (kQ s.T.KD)).1;rw[s.e1] at this;exact⟨by simp only[SV.au,SV.ok,Bool.and_true];exact this,rfl⟩
structure On where
 L:MM Dt Int
 c:Nat
def On.hp (b m:Nat)(s:On):Hp:=[(b,.box 114 [.mp m]),(m,.map (aq Dt.cells iv s.L) s.c)]
def On.cnt (s:On)(d:Dt):Int:=(MM.get s.L d).getD 0
def On.step (s:On)(o:ag):On×Bool:=(⟨MM.put s.L s.c o.dot (s.cnt o.dot+1),MM.jA s.L s.c o.dot⟩,decide (s.cnt o.dot+1>1) || decide (o.kind>1))
section
attribute [local irreducible] SW RW aF SC ai ak
set_option maxHeartbeats 1000000 in
theorem IN (s:On)(hw:MM.wf s.L s.c)(o:ag)(hb:0<=s.cnt o.dot/\s.cnt o.dot<1000000000):SB Tryz.prog tree_New_1.f [.agg o.cells,.ptr 0 0] [(0,.box 114 [.mp 1]),(1,.map (aq Dt.cells iv s.L) s.c)] 2 1
  (λ r F'=>r=bl (s.step o).2/\F'=[(0,.box 114 [.mp 1]),(1,.map (aq Dt.cells iv (s.step o).1.L) (s.step o).1.c)]):=by
 refine tree_New_1.enter (by simp[SV.au,SV.ok]) (by simp[Hp.ok,Ob.ok,SV.au,SV.ok,bP]) (by simp) ?_;dsimp only[tree_New_1.s,Co.M,Co.J,Co.H,Co.N,Co.F,Co.B,Co.b8,Co.i6,Co.T,Co.K,Co.E,Co.x,Co.Y,Co.D,Co.S];have fe:=t_ (vs:=iv) (kc:=Dt.cells) hw o.dot 0;have e0:(MM.get s.L o.dot).getD 0=s.cnt o.dot:=rfl;have e1:IntKind.i64.wrap (s.cnt o.dot+1)=s.cnt o.dot+1:=wrap_i64 _ (by omega);have e2:(MM.get (MM.put s.L s.c o.dot (s.cnt o.dot+1)) o.dot).getD 0=s.cnt o.dot+1:=by rw[MM.c_,if_pos rfl];rfl
 have e3:decide ((o.kind:Int)>1)=decide (o.kind>1):=by rw[Bool.eq_iff_iff];simp only[decide_eq_true_eq];omega
 refine SW.seq (SW.g0 jp Zm af ?_);refine SW.cut (stM:=⟨[(2,.ptr 2 0),(1,.ptr 0 0)],[(2,.box 43 o.cells),(0,.box 114 [.mp 1]),(1,.map (aq Dt.cells iv (s.step o).1.L) (s.step o).1.c)],3⟩) id (SW.tree Zm ?_) ?_
 .have e3':(MM.get (MM.xZ s.L s.c o.dot 0) o.dot).getD 0=s.cnt o.dot:=by
   unfold MM.xZ On.cnt;cases hh:MM.idx s.L o.dot with
   | none=>
    have h1:=MM.k9.1 hh;have h2:s.L.find? (λ x=>decide (o.dot=x.2.1))=none:=by
     unfold MM.get at h1
     simpa using h1
    rw[h1];simp[MM.get,List.find?_append,h2]
   | some i=>rfl
  repeat' (first
   | refine xm.s1 _ (h1:= ?_)
   | refine xm.s2 _ _ (h1:= ?_) (h2:= ?_)
   | refine xm.s3 _ _ _ (h1:= ?_) (h2:= ?_) (h3:= ?_)
   | refine Oa.mk (Zq fe (Zq e0 (Zq e1 e3'))) (h:=?_))
  all_goals (refine xm.done (by kernel_rfl) (aH.same (by simp) (by simp[aL,List.lookup,SV.aC,SV.ok]) (by simp[Hp.ok,Ob.ok,SV.au,SV.ok,bP]) (λ x hx=> ?_)))
  all_goals (simp only[List.mem_cons,List.not_mem_nil,or_false] at hx;rcases hx with rfl|rfl|rfl<;>rfl)
 have hE:∀ b,(s.step o).2=b->∀ env:List (Nat×SV),env.lookup 3=some (bl b)->Sl.Fin 2 1 tree_New_1.rv (λ r F'=>r=bl (s.step o).2/\F'=[(0,.box 114 [.mp 1]),(1,.map (aq Dt.cells iv (s.step o).1.L) (s.step o).1.c)]) ⟨env,[(2,.box 43 o.cells),(0,.box 114 [.mp 1]),(1,.map (aq Dt.cells iv (s.step o).1.L) (s.step o).1.c)],3⟩:=λ b hb env he=>
  End.mk (ss:=[bl b]) (ob:=True) [(0,.box 114 [.mp 1]),(1,.map (aq Dt.cells iv (s.step o).1.L) (s.step o).1.c)] (h1:=by simp[tree_New_1.rv,CC,he]) (h2:=trivial) (h3:=by repeat (first|exact HSub.nil _|refine HSub.cons (by rfl) ?_)) (h4:=⟨by rw[hb];rfl,rfl⟩) (h5:=rfl) (h6:=by simp[Hp.ok,Ob.ok,SV.au,SV.ok,bP])
 have e5:(MM.get (s.step o).1.L o.dot).getD 0=s.cnt o.dot+1:=e2;rcases(Bool.eq_false_or_eq_true (decide (s.cnt o.dot+1>1))).symm with h1|h1
 .have er:(s.step o).2=decide (o.kind>1):=by unfold On.step;rw[h1];rfl
  (repeat (first|refine SW.seq ?_|refine SW.block ?_|refine SW.g0 jp Zm (Zq e5 (Zq e3 h1)) ?_|refine SW.skip ?_|refine SW.exit ?_|refine SW.ret ?_|refine SW.an rfl ?_|refine SW.ah rfl ?_));exact hE _ er _ rfl
 .have er:(s.step o).2=true:=by unfold On.step;rw[h1];rfl
  (repeat (first|refine SW.seq ?_|refine SW.block ?_|refine SW.g0 jp Zm (Zq e5 (Zq e3 h1)) ?_|refine SW.skip ?_|refine SW.exit ?_|refine SW.ret ?_|refine SW.an rfl ?_|refine SW.ah rfl ?_));exact hE _ er _ rfl
end
theorem On.names (b m:Nat)(s:On):(s.hp b m).map (·.1)=[b,m]:=rfl
theorem IP {b m:Nat}(h1:m≠b)(s:On)(hw:MM.wf s.L s.c)(o:ag)(hb:0<=s.cnt o.dot/\s.cnt o.dot<1000000000)(k:Nat):aF Tryz.prog tree_New_1.f [.agg o.cells,.ptr b 0] (s.hp b m) k 1 (bl (s.step o).2) ((s.step o).1.hp b m):=by
 have h:=SB.nB [b,m] (IN s hw o hb) (by simp;exact Ne.symm h1) (λ i hi=>by
  rcases(show i=0\/i=1 by simp at hi;omega) with rfl|rfl<;>simp[aa]) k
 simp only[SV.aU,SV.aC,ag.aA,Hp.aC,List.map_cons,List.map_nil,Ob.aC,ff] at h;exact h
theorem Fo {b m:Nat}(h1:m≠b):
  xu Tryz.prog 122 [] [.ptr b 0] (On.hp b m) On.step 1 (λ i s=>MM.wf s.L s.c/\∀ d,0<=s.cnt d/\s.cnt d<=(i:Int)) (λ _=>True) 1000000000 where
 nd s:=by rw[On.names];simp;exact Ne.symm h1
 nm s x:=rfl
 nx i s x hI _ hi:=by
  refine⟨MM.gB hI.1 _ _,λ d=> ?_⟩;have hx:=hI.2 x.dot;show 0<=(MM.get (MM.put s.L s.c x.dot (s.cnt x.dot+1)) d).getD 0/\(MM.get (MM.put s.L s.c x.dot (s.cnt x.dot+1)) d).getD 0<=((i+1:Nat):Int);rw[MM.c_]
  split
  .simp only[Option.getD_some];omega
  .have:=hI.2 d
   unfold On.cnt at this;omega
 ok s x q h:=by
  simp only[Hp.ok,On.hp,List.all_cons,List.all_nil,Ob.ok,SV.au,SV.ok,bP,Bool.and_true] at h ⊢;exact h
 call i s x k hI _ hi _:=IP h1 s hI.1 x (by have:=hI.2 x.dot;omega) k
 a1 s q h:=by
  simp only[Hp.ok,On.hp,List.all_cons,List.all_nil,Ob.ok,SV.au,SV.ok,bP,Bool.and_true,Bool.and_eq_true] at h ⊢;exact⟨trivial,h.1.1⟩
end
section
abbrev TS:=mG 2 0 1
def LP:TS:=⟨⟨2,0,1,[],0,[],0⟩,rfl,rfl,rfl⟩
def grow:Nat->TS->List ag->TS
 | 0,s,W=>s
 | f+1,s,W=>if (bN mG.step s W).1.length<W.length then grow f (bN mG.step s W).2 (bN mG.step s W).1 else (bN mG.step s W).2
theorem xx:∀ (f g:Nat) (s:TS) (W:List ag),W.length<f->W.length<g->grow f s W=grow g s W
 | 0,g,s,W,h,_=>by omega
 | f+1,0,s,W,_,h=>by omega
 | f+1,g+1,s,W,h1,h2=>by
  simp only[grow]
  split
  .exact xx f g _ _ (by omega) (by omega)
  .rfl
theorem CW {s:TS}{W:List ag}(h:(bN mG.step s W).1.length<W.length):grow (W.length+1) s W=grow ((bN mG.step s W).1.length+1) (bN mG.step s W).2 (bN mG.step s W).1:=by
 rw[show grow (W.length+1) s W=grow W.length (bN mG.step s W).2 (bN mG.step s W).1 by simp only[grow];rw[if_pos h]];exact xx _ _ _ _ h (Nat.lt_succ_self _)
theorem Fp {s:TS}{W:List ag}(h: ¬ (bN mG.step s W).1.length<W.length):grow (W.length+1) s W=(bN mG.step s W).2:=by
 simp only[grow];rw[if_neg h]
def firsts (l:List ag):List ag:=(bN On.step ⟨[],0⟩ l).1
def av (l:List ag):Tr:=(grow ((firsts l).length+1) LP (firsts l)).T
theorem mG.sep (s:mG 2 0 1):s.T.sep:=⟨by rw[s.e1,s.e2];decide,by rw[s.e1,s.e3];decide,by rw[s.e2,s.e3];decide⟩
theorem mG.lt (s:mG 2 0 1){k:Nat}(h:3<=k):s.T.lt k:=⟨by rw[s.e1];omega,by rw[s.e2];omega,by rw[s.e3];omega⟩
def mG.wf (s:mG 2 0 1):Prop:=MM.wf s.T.at_ s.T.ca/\MM.wf s.T.made s.T.cm
theorem LQ:LP.wf:=⟨MM.k_,MM.k_⟩
theorem B3:∀ (W:List ag) (s:TS),s.wf->(bN mG.step s W).2.wf
 | [],s,h=>h
 | x::W,s,h=>B3 W _ (Tr.Fm h.1 h.2 x)
theorem LR:LP.T.hp=[(2,.box 166 [.mp 0,.mp 1]),(0,.map [] 0),(1,.map [] 0)]:=rfl
section
attribute [local irreducible] SW RW aF SC ai ak Tr.hp
set_option maxHeartbeats 4000000 in
theorem LS (l:List ag)(hl:l.length<1000000000):SB Tryz.prog tree_New.f [ops l] [] 0 7 (λ r F'=>r= .ptr 2 0/\F'=(av l).hp):=by
 refine tree_New.enter (by first|rfl|simp[SV.ok,SV.au]) (by first|rfl|simp[Hp.ok,Ob.ok,SV.ok,SV.au,aB.aj]) (by simp) ?_;dsimp only[tree_New.s,Co.M,Co.J,Co.F,Co.B,Co.L,Co.P,Co.Q,Co.x,Co.W,Co.V,Co.S];have spl1:∀ (x y:SV),cq [x] 0 [y]=[y]:=λ _ _=>rfl
 have splm:∀ (x y a b:SV),cq (cq [x,y] 0 [a]) 1 [b]=[a,b]:=λ _ _ _ _=>rfl
 refine SW.seq (SW.g0 eh Zm af ?_);refine SW.seq (SW.g0 eh Zm splm ?_);refine SW.seq (SW.g0 eh Zm spl1 ?_);have ho:(On.hp 4 3 ⟨[],0⟩)=[(4,.box 114 [.mp 3]),(3,.map [] 0)]:=rfl;have h0:mB (On.hp 4 3) 6 7 ⟨[],0⟩ ⟨[],0⟩:=⟨rfl,by decide,by rw[ho];rfl⟩;have cD:=ve (Fo (b:=4) (m:=3) (by omega)) l ⟨[],0⟩ hl (Nat.le_of_lt hl) (λ _ _=>trivial) ⟨MM.k_,λ d=>by simp[On.cnt,MM.get]⟩ 6 7 (by omega) h0 (by decide);obtain⟨s1,hs1⟩:∃ s1,(bN On.step ⟨[],0⟩ l).2=s1:=⟨_,rfl⟩;have hf:(bN On.step ⟨[],0⟩ l).1=firsts l:=rfl;rw[hs1,hf] at cD
 have cD:aF Tryz.prog slices_DeleteFunc_Lapi_Op_api_Op.f [.gs 6 l.length,.fn (.func 122) [] [.ptr 4 0]] [(6,.arr 43 29 l.length (jO l)),(4,.box 114 [.mp 3]),(3,.map [] 0)] 7 (l.length*1+l.length*(1+1)) (.gs 6 (firsts l).length)
   [(6,.arr 43 29 (firsts l).length (jO (firsts l))),(4,.box 114 [.mp 3]),(3,.map (aq Dt.cells iv s1.L) s1.c)]:=cD
 refine SW.seq (SW.g2 eh Zm af (Fa l hl 5) cD ?_);obtain⟨K,hK,hK7⟩:∃ K,7+(l.length*1+l.length*(1+1))=K/\7<=K:=⟨_,rfl,by omega⟩;rw[hK];have hlen:(firsts l).length<=l.length:=pP On.step l ⟨[],0⟩;refine SW.weak id (st1:=⟨[(3,.ptr 2 0),(5,.gs 6 (firsts l).length)],(6,.arr 43 29 (firsts l).length (jO (firsts l)))::LP.T.hp,K⟩) (aH.same (by simp) (by simp[aL,List.lookup,SV.aC,SV.ok];omega) (ax (by simp;omega) (SV.aZ _) (Tr.qK (LP.lt (by show 3<=K;omega)))) (λ x hx=> ?_)) ?_
 .rcases List.mem_cons.1 hx with rfl|hx
  .rfl
  .rw[LR] at hx
   simp only[List.mem_cons,List.not_mem_nil,or_false] at hx;rcases hx with rfl|rfl|rfl<;>rfl
 refine SW.seq (SW.seq (SW.g0 eh Zm af ?_));refine SW.block ?_
 let Inv:Bool->List ag->TS->Prop:=λ b W s=>W.length<=l.length/\s.wf/\(if b then grow (W.length+1) s W else s).T=av l
 have hok:∀ (W:List ag) (s:TS) (k:Nat),7<=k->Hp.ok (λ n=>decide (n<k)) ((6,.arr 43 29 W.length (jO W))::s.T.hp)=true:=λ W s k hk=>ax (by simp;omega) (SV.aZ _) (Tr.qK (s.lt (by omega)))
 have h6:∀ s:TS,lk s.T.hp 6=none:=λ s=>Tr.P8 (s.lt (Nat.le_refl 3)) (by omega)
 have oH:∀ (W:List ag) (s:TS),(((6,Ob.arr 43 29 W.length (jO W))::s.T.hp:Hp).map (·.1)).Nodup:=λ W s=>rC (h6 s) (Tr.nd s.sep)
 refine SW.loop (α:={x:Bool×List ag×TS×Nat // Inv x.1 x.2.1 x.2.2.1/\7<=x.2.2.2}) (λ x=>⟨[(6,bl x.1.1),(3,.ptr 2 0),(5,.gs 6 x.1.2.1.length)],(6,.arr 43 29 x.1.2.1.length (jO x.1.2.1))::x.1.2.2.1.T.hp,x.1.2.2.2⟩) (λ x=>2*x.1.2.1.length+(if x.1.1 then 1 else 0))
  ⟨(true,firsts l,LP,K),⟨hlen,LQ,rfl⟩,hK7⟩ id ?_ ?_
 .exact aH.same (by simp) (by simp[aL,List.lookup,SV.aC,SV.ok];omega) (hok _ _ _ hK7) (aK (oH _ _))
 rintro⟨⟨b,W,s,k⟩,⟨hW,hwf,hfin⟩,hk7⟩;dsimp only at hW hwf hfin hk7 ⊢;cases b with
 | false=>
  refine SW.seq (SW.seq (SW.g0 eh Zm af ?_));refine SW.ah rfl (SW.exit ?_);refine(?_:Sl.SW _ _ _ _ _ _);refine SW.seq (SW.g0 eh Zm af ?_);refine SW.ret ?_;have hfin:s.T=av l:=hfin;rw[<- hfin];exact End.mk s.T.hp (h3:=lH (h6 s) λ _ _ h=>h) (h4:=⟨rfl,rfl⟩) (h6:=Tr.qK (s.lt (by omega))) (h7:=by simpa using hk7)
 | true=>
  have hfin:(grow (W.length+1) s W).T=av l:=hfin;have hH:mB (λ s:TS=>s.T.hp) 6 k s s:=⟨rfl,Tr.qK (s.lt (by omega)),h6 s⟩;have cP:=ve (IL (b:=2) (a:=0) (m:=1) (by omega) (by omega) (by omega) 1000000000) W s (by omega) (by omega) (λ _ _=>trivial) hwf 6 k (by omega) hH (Tr.cl s.sep);have hwf':=B3 W s hwf;have hkl:=pP mG.step W s;have hmore:=CW (s:=s) (W:=W);have hend:=Fp (s:=s) (W:=W);obtain⟨W',hW'⟩:∃ W',(bN mG.step s W).1=W':=⟨_,rfl⟩;obtain⟨s',hs'⟩:∃ s',(bN mG.step s W).2=s':=⟨_,rfl⟩;rw[hW',hs'] at cP hmore hend;rw[hW'] at hkl;rw[hs'] at hwf';have hm:dx (dy ((6,Ob.arr 43 29 W.length (jO W))::s.T.hp) ((6,Ob.arr 43 29 W'.length (jO W'))::s'.T.hp) s.T.hp) s'.T.hp=(6,Ob.arr 43 29 W.length (jO W))::s'.T.hp:=
   sJ (by rw[Tr.names,Tr.names,s.e1,s.e2,s.e3,s'.e1,s'.e2,s'.e3]) (oH W s)
  refine SW.seq (SW.seq (SW.g0 eh Zm af ?_));refine SW.an rfl (SW.skip ?_);refine(?_:Sl.SW _ _ _ _ _ _);refine SW.block (SW.seq (SW.g0 eh Zm af ?_));refine SW.seq ?_
  (refine SW.bG eh Zm ?_;(repeat (first|refine RW.ro hm (h:=?_)|refine RW.skip (h:=?_)|refine RW.op hm (h:=?_)|refine RW.di hm (h:=?_)|refine RW.aR (h:=?_)|(refine RW.aW (h:=?_);(first|refine ai.mk (hm) (hs:=(λ _ _ h=>h)) (hc:=cP) (h:=?_)))));refine RW.nil ⟨by kernel_rfl,ak.mk (h:=?_)⟩)
  have e1:decide ((W'.length:Int)<(W.length:Int))=decide (W'.length<W.length):=by rw[Bool.eq_iff_iff];simp only[decide_eq_true_eq];omega
  refine SW.g0 eh Zm e1 ?_;refine⟨⟨(decide (W'.length<W.length),W',s',k+(W.length*2+W.length*(2+1))),⟨by show W'.length<=l.length;omega,hwf',?_⟩,by show 7<=k+_;omega⟩,id,?_,aH.same (by simp) (by simp[aL,List.lookup,SV.aC,SV.ok];omega) (hok W' s' _ (by show 7<=k+_;omega)) (aK (oH W' s'))⟩
  .rw[<- hfin]
   by_cases h:W'.length<W.length
   .rw[decide_eq_true h,hmore h];rfl
   .rw[decide_eq_false h,hend h];rfl
  .show 2*W'.length+(if decide (W'.length<W.length)=true then 1 else 0)<2*W.length+(if true=true then 1 else 0)
   by_cases h:W'.length<W.length
   .simp[h]<;>omega
   .simp[h]<;>omega
end
def Tr.sh (T:Tr)(k:Nat):Tr:={ T with bx:=k+T.bx,ma:=k+T.ma,mm:=k+T.mm}
theorem Tr.NK (T:Tr)(k:Nat):T.hp.aC (fz [] k)=(T.sh k).hp:=by
 simp only[Tr.hp,Hp.aC,List.map_cons,List.map_nil,Ob.aC,SV.aU,SV.aC,jY,cQ,Tr.sh,fz,List.getElem?_nil,List.length_nil,Nat.sub_zero,Nat.add_comm]
def jL (l:List ag)(k:Nat):Tr:=(av l).sh k
theorem LU (l:List ag)(hl:l.length<1000000000)(k:Nat):aF Tryz.prog tree_New.f [ops l] [] k 7 (.ptr (jL l k).bx 0) (jL l k).hp:=by
 have h:=SB.new (LS l hl) k;rw[Tr.NK] at h;have e:(av l).bx=2:=(grow ((firsts l).length+1) LP (firsts l)).e1;have e2:(jL l k).bx=k+2:=by show k+(av l).bx=_;rw[e]
 rw[e2];simp only[SV.aC,fz,List.getElem?_nil,List.length_nil,Nat.sub_zero] at h;rw[Nat.add_comm k 2];exact h
end
section
def ew (o:ag)(c:Cr):Bool:=((!jm o.aT c.aT || ((o.to:Int) == 0)) || decide ((o.depth:Int)>=c.depth)) || decide ((o.cap:Int)>c.cap)
def gh (l:List ag)(g:Cr×Bool)(o:ag):Bool:=(!g.2 || !decide (g.1.aI=o.aI)) || !((aJ l o.aN).getD ag.zero).before o
def dI (l:List ag)(g:Cr×Bool)(o:ag):Cr×Nat:=
 if o.kind≠1 then (Cr.zero,2) else (g.1,if gh l g o then 272 else if g.1.hold≠o.who then 273 else if hasB g.1.aT 1=false then 274 else if ew o g.1 then 275 else 0)
def bH (l:List ag):Nat->Dt->Cr×Bool
 | 0,_=>(Cr.zero,false)
 | m +1,d=>match aJ l d with
  | none=>(Cr.zero,false)
  | some o=>if o.kind=0 then (⟨d,d,⟨0,0⟩,o.who,7,8,1099511627776,0⟩,decide (o.aI=d)) else
   if (dI l (bH l m o.aN) o).2≠0 then (Cr.zero,false) else (⟨d,o.aI,o.aN,o.to,o.aT,o.depth,o.cap,IntKind.i64.wrap ((dI l (bH l m o.aN) o).1.level+1)⟩,true)
theorem Ba {l:List ag}(hl:∀ x,x∈l->x.aT<256)(m:Nat)(d:Dt):(bH l m d).1.aT<256:=by
 cases m with
 | zero=>show(0:Nat)<256;omega
 | succ m=>
  simp only[bH]
  split
  .show(0:Nat)<256;omega
  .rename_i o ho
   split
   .show(7:Nat)<256;omega
   .split
    .show(0:Nat)<256;omega
    .exact hl o (List.mem_of_find?_eq_some ho)
section
attribute [local irreducible] SW RW aF SC ai ak bH
variable {l:List ag} (hlen:l.length<4611686018427387904) (hl:∀ x,x∈l->x.aT<256)
include hlen hl
set_option maxHeartbeats 4000000 in
theorem B4 (m : Nat)(hm:m<1000)(o:ag)(ho:o.aT<256)(hg:∀ d k,aF Tryz.prog ref16_get.f [ops l,.agg d.cells,i64 m] [] k 0 (.de [.agg (bH l m d).1.cells,bl (bH l m d).2]) []):
    Go.Sl.Pure Tryz.prog ref16_why.f [ops l,.agg o.cells,i64 ((m+1:Nat):Int)] (.de [.agg (dI l (bH l m o.aN) o).1.cells,i64 (dI l (bH l m o.aN) o).2]):=by
  refine ref16_why.enter (by first|rfl|simp[SV.ok,SV.au]) (by first|rfl|simp[Hp.ok,Ob.ok,SV.ok,SV.au,aB.aj]) (by simp) ?_;dsimp only[ref16_why.s,Co.M,Co.J,Co.H,Co.F,Co.C,Co.Z,Co.B,Co.b8,Co.ay,Co.bu,Co.i6,Co.bC,Co.T,Co.K,Co.E,Co.Q,Co.R,Co.x,Co.W,Co.Y,Co.V,Co.O,Co.D,Co.S];have hgr:=Ba hl m o.aN;have hgc:=hg o.aN;obtain⟨g,hgd⟩:∃ g,bH l m o.aN=g:=⟨_,rfl⟩;rw[hgd] at hgr hgc ⊢;have em:IntKind.i64.wrap (((m+1:Nat):Int) - 1)=(m:Int):=by rw[wrap_i64 _ (by omega)];omega
  have k1:(((o.kind:Nat):Int) != 1)=decide (o.kind≠1):=by rw[Bool.eq_iff_iff];simp only[bne_iff_ne,decide_eq_true_eq];omega
  obtain⟨mk,hmk⟩:∃ mk,(aJ l o.aN).getD ag.zero=mk:=⟨_,rfl⟩;have hfd:∀ k,aF Tryz.prog ref10_Find.f [ops l,.agg o.aN.cells] [] k 0 (.de [.agg mk.cells,bl (aJ l o.aN).isSome]) []:=λ k=>by rw[<- hmk];exact pO l hlen o.aN k
  have hw:dI l g o=if o.kind≠1 then (Cr.zero,2) else (g.1,if (!g.2 || !decide (g.1.aI=o.aI)) || !mk.before o then 272 else if g.1.hold≠o.who then 273 else if hasB g.1.aT 1=false then 274 else if ew o g.1 then 275 else 0):=by
    unfold dI gh;rw[hmk]
  have kh:(((g.1.hold:Nat):Int) != ((o.who:Nat):Int))=decide (g.1.hold≠o.who):=by rw[Bool.eq_iff_iff];simp only[bne_iff_ne,decide_eq_true_eq];omega
  rw[hw];rcases(Bool.eq_false_or_eq_true (decide (o.kind≠1))).symm with h1|h1
  case inr=>
    rw[if_pos (by simpa using h1)];(repeat (first|refine SW.seq ?_|refine SW.block ?_|refine SW.g0 da Zm (Zq k1 h1) ?_|refine SW.skip ?_|refine SW.exit ?_|refine SW.ret ?_|refine SW.an rfl ?_|refine SW.ah rfl ?_));exact End.mk [] (h4:=⟨rfl,rfl⟩)
  rw[if_neg (by simpa using h1)];obtain⟨c,is⟩:=g;dsimp only at*;cases is with
  | false=>
    (repeat (first|refine SW.seq ?_|refine SW.block ?_|(have fx:=(Zq k1 (Zq h1 (Zq em kh)));refine SW.bG da Zm ?_;(repeat (first|refine RW.ro fx (h:=?_)|refine RW.skip (h:=?_)|refine RW.op fx (h:=?_)|refine RW.di fx (h:=?_)|refine RW.aR (h:=?_)|(refine RW.aW (h:=?_);(first|refine ai.mk fx (hc:=hgc _) (h:=?_)|refine ai.mk fx (hc:=hfd _) (h:=?_)|refine ai.mk fx (hc:=cg _ _ _) (h:=?_)|refine ai.mk fx (hc:=gD _ 1 hgr ⟨by omega,by omega⟩ _) (h:=?_)|refine ai.mk fx (hc:=gx _ _ ho hgr _) (h:=?_)))));refine RW.nil ⟨by kernel_rfl,ak.mk (h:=?_)⟩)|refine SW.skip ?_|refine SW.exit ?_|refine SW.ret ?_|refine SW.an rfl ?_|refine SW.ah rfl ?_));exact End.mk [] (h4:=⟨by simp only[Bool.not_false,Bool.not_false,Bool.not_true,Bool.true_or,Bool.false_or,Bool.or_true,Bool.or_false,if_true,if_false,Bool.false_eq_true,reduceIte];rfl,rfl⟩)
  | true=>
    rcases(Bool.eq_false_or_eq_true (decide (c.aI=o.aI))).symm with h2|h2
    . skip
      (repeat (first|refine SW.seq ?_|refine SW.block ?_|(have fx:=(Zq k1 (Zq h1 (Zq em (Zq kh h2))));refine SW.bG da Zm ?_;(repeat (first|refine RW.ro fx (h:=?_)|refine RW.skip (h:=?_)|refine RW.op fx (h:=?_)|refine RW.di fx (h:=?_)|refine RW.aR (h:=?_)|(refine RW.aW (h:=?_);(first|refine ai.mk fx (hc:=hgc _) (h:=?_)|refine ai.mk fx (hc:=hfd _) (h:=?_)|refine ai.mk fx (hc:=cg _ _ _) (h:=?_)|refine ai.mk fx (hc:=gD _ 1 hgr ⟨by omega,by omega⟩ _) (h:=?_)|refine ai.mk fx (hc:=gx _ _ ho hgr _) (h:=?_)))));refine RW.nil ⟨by kernel_rfl,ak.mk (h:=?_)⟩)|refine SW.skip ?_|refine SW.exit ?_|refine SW.ret ?_|refine SW.an rfl ?_|refine SW.ah rfl ?_));exact End.mk [] (h4:=⟨by simp only[h2,Bool.not_false,Bool.not_true,Bool.true_or,Bool.false_or,Bool.or_true,Bool.or_false,if_true,if_false,Bool.false_eq_true,reduceIte];rfl,rfl⟩)
    . skip
      rcases(Bool.eq_false_or_eq_true (mk.before o)).symm with h3|h3
      . skip
        (repeat (first|refine SW.seq ?_|refine SW.block ?_|(have fx:=(Zq k1 (Zq h1 (Zq em (Zq kh (Zq h2 h3)))));refine SW.bG da Zm ?_;(repeat (first|refine RW.ro fx (h:=?_)|refine RW.skip (h:=?_)|refine RW.op fx (h:=?_)|refine RW.di fx (h:=?_)|refine RW.aR (h:=?_)|(refine RW.aW (h:=?_);(first|refine ai.mk fx (hc:=hgc _) (h:=?_)|refine ai.mk fx (hc:=hfd _) (h:=?_)|refine ai.mk fx (hc:=cg _ _ _) (h:=?_)|refine ai.mk fx (hc:=gD _ 1 hgr ⟨by omega,by omega⟩ _) (h:=?_)|refine ai.mk fx (hc:=gx _ _ ho hgr _) (h:=?_)))));refine RW.nil ⟨by kernel_rfl,ak.mk (h:=?_)⟩)|refine SW.skip ?_|refine SW.exit ?_|refine SW.ret ?_|refine SW.an rfl ?_|refine SW.ah rfl ?_));exact End.mk [] (h4:=⟨by simp only[h2,h3,Bool.not_false,Bool.not_true,Bool.true_or,Bool.false_or,Bool.or_true,Bool.or_false,if_true,if_false,Bool.false_eq_true,reduceIte];rfl,rfl⟩)
      . skip
        rcases(Bool.eq_false_or_eq_true (decide (c.hold≠o.who))).symm with h4|h4
        rotate_left
        . skip
          (repeat (first|refine SW.seq ?_|refine SW.block ?_|(have fx:=(Zq k1 (Zq h1 (Zq em (Zq kh (Zq h2 (Zq h3 h4))))));refine SW.bG da Zm ?_;(repeat (first|refine RW.ro fx (h:=?_)|refine RW.skip (h:=?_)|refine RW.op fx (h:=?_)|refine RW.di fx (h:=?_)|refine RW.aR (h:=?_)|(refine RW.aW (h:=?_);(first|refine ai.mk fx (hc:=hgc _) (h:=?_)|refine ai.mk fx (hc:=hfd _) (h:=?_)|refine ai.mk fx (hc:=cg _ _ _) (h:=?_)|refine ai.mk fx (hc:=gD _ 1 hgr ⟨by omega,by omega⟩ _) (h:=?_)|refine ai.mk fx (hc:=gx _ _ ho hgr _) (h:=?_)))));refine RW.nil ⟨by kernel_rfl,ak.mk (h:=?_)⟩)|refine SW.skip ?_|refine SW.exit ?_|refine SW.ret ?_|refine SW.an rfl ?_|refine SW.ah rfl ?_));exact End.mk [] (h4:=⟨by simp only[h2,h3,ne_eq,not_false_eq_true,show ¬ c.hold=o.who by simpa using h4,Bool.not_false,Bool.not_true,Bool.true_or,Bool.false_or,Bool.or_true,Bool.or_false,if_true,if_false,Bool.false_eq_true,reduceIte];rfl,rfl⟩)
        . skip
          rcases(Bool.eq_false_or_eq_true (hasB c.aT 1)).symm with h5|h5
          . skip
            (repeat (first|refine SW.seq ?_|refine SW.block ?_|(have fx:=(Zq k1 (Zq h1 (Zq em (Zq kh (Zq h2 (Zq h3 (Zq h4 h5)))))));refine SW.bG da Zm ?_;(repeat (first|refine RW.ro fx (h:=?_)|refine RW.skip (h:=?_)|refine RW.op fx (h:=?_)|refine RW.di fx (h:=?_)|refine RW.aR (h:=?_)|(refine RW.aW (h:=?_);(first|refine ai.mk fx (hc:=hgc _) (h:=?_)|refine ai.mk fx (hc:=hfd _) (h:=?_)|refine ai.mk fx (hc:=cg _ _ _) (h:=?_)|refine ai.mk fx (hc:=gD _ 1 hgr ⟨by omega,by omega⟩ _) (h:=?_)|refine ai.mk fx (hc:=gx _ _ ho hgr _) (h:=?_)))));refine RW.nil ⟨by kernel_rfl,ak.mk (h:=?_)⟩)|refine SW.skip ?_|refine SW.exit ?_|refine SW.ret ?_|refine SW.an rfl ?_|refine SW.ah rfl ?_));exact End.mk [] (h4:=⟨by simp only[h2,h3,show ¬ c.hold≠o.who by simpa using h4,h5,Bool.not_false,Bool.not_true,Bool.true_or,Bool.false_or,Bool.or_true,Bool.or_false,if_true,if_false,Bool.false_eq_true,reduceIte];rfl,rfl⟩)
          . skip
            rcases(Bool.eq_false_or_eq_true (jm o.aT c.aT)).symm with h6|h6
            . skip
              have hn:ew o c=true:=by unfold ew;rw[h6];rfl
              (repeat (first|refine SW.seq ?_|refine SW.block ?_|(have fx:=(Zq k1 (Zq h1 (Zq em (Zq kh (Zq h2 (Zq h3 (Zq h4 (Zq h5 h6))))))));refine SW.bG da Zm ?_;(repeat (first|refine RW.ro fx (h:=?_)|refine RW.skip (h:=?_)|refine RW.op fx (h:=?_)|refine RW.di fx (h:=?_)|refine RW.aR (h:=?_)|(refine RW.aW (h:=?_);(first|refine ai.mk fx (hc:=hgc _) (h:=?_)|refine ai.mk fx (hc:=hfd _) (h:=?_)|refine ai.mk fx (hc:=cg _ _ _) (h:=?_)|refine ai.mk fx (hc:=gD _ 1 hgr ⟨by omega,by omega⟩ _) (h:=?_)|refine ai.mk fx (hc:=gx _ _ ho hgr _) (h:=?_)))));refine RW.nil ⟨by kernel_rfl,ak.mk (h:=?_)⟩)|refine SW.skip ?_|refine SW.exit ?_|refine SW.ret ?_|refine SW.an rfl ?_|refine SW.ah rfl ?_));exact End.mk [] (h4:=⟨by simp only[h2,h3,show ¬ c.hold≠o.who by simpa using h4,h5,hn,Bool.not_false,Bool.not_true,Bool.true_or,Bool.false_or,Bool.or_true,Bool.or_false,if_true,if_false,Bool.false_eq_true,reduceIte];rfl,rfl⟩)
            . skip
              rcases(Bool.eq_false_or_eq_true (((o.to:Int) == 0))).symm with h7|h7
              rotate_left
              . skip
                have hn:ew o c=true:=by unfold ew;rw[h6,h7];simp
                (repeat (first|refine SW.seq ?_|refine SW.block ?_|(have fx:=(Zq k1 (Zq h1 (Zq em (Zq kh (Zq h2 (Zq h3 (Zq h4 (Zq h5 (Zq h6 h7)))))))));refine SW.bG da Zm ?_;(repeat (first|refine RW.ro fx (h:=?_)|refine RW.skip (h:=?_)|refine RW.op fx (h:=?_)|refine RW.di fx (h:=?_)|refine RW.aR (h:=?_)|(refine RW.aW (h:=?_);(first|refine ai.mk fx (hc:=hgc _) (h:=?_)|refine ai.mk fx (hc:=hfd _) (h:=?_)|refine ai.mk fx (hc:=cg _ _ _) (h:=?_)|refine ai.mk fx (hc:=gD _ 1 hgr ⟨by omega,by omega⟩ _) (h:=?_)|refine ai.mk fx (hc:=gx _ _ ho hgr _) (h:=?_)))));refine RW.nil ⟨by kernel_rfl,ak.mk (h:=?_)⟩)|refine SW.skip ?_|refine SW.exit ?_|refine SW.ret ?_|refine SW.an rfl ?_|refine SW.ah rfl ?_));exact End.mk [] (h4:=⟨by simp only[h2,h3,show ¬ c.hold≠o.who by simpa using h4,h5,hn,Bool.not_false,Bool.not_true,Bool.true_or,Bool.false_or,Bool.or_true,Bool.or_false,if_true,if_false,Bool.false_eq_true,reduceIte];rfl,rfl⟩)
              . skip
                rcases(Bool.eq_false_or_eq_true (decide ((o.depth:Int)>=c.depth))).symm with h8|h8
                rotate_left
                . skip
                  have hn:ew o c=true:=by unfold ew;rw[h6,h7,h8];simp
                  (repeat (first|refine SW.seq ?_|refine SW.block ?_|(have fx:=(Zq k1 (Zq h1 (Zq em (Zq kh (Zq h2 (Zq h3 (Zq h4 (Zq h5 (Zq h6 (Zq h7 h8))))))))));refine SW.bG da Zm ?_;(repeat (first|refine RW.ro fx (h:=?_)|refine RW.skip (h:=?_)|refine RW.op fx (h:=?_)|refine RW.di fx (h:=?_)|refine RW.aR (h:=?_)|(refine RW.aW (h:=?_);(first|refine ai.mk fx (hc:=hgc _) (h:=?_)|refine ai.mk fx (hc:=hfd _) (h:=?_)|refine ai.mk fx (hc:=cg _ _ _) (h:=?_)|refine ai.mk fx (hc:=gD _ 1 hgr ⟨by omega,by omega⟩ _) (h:=?_)|refine ai.mk fx (hc:=gx _ _ ho hgr _) (h:=?_)))));refine RW.nil ⟨by kernel_rfl,ak.mk (h:=?_)⟩)|refine SW.skip ?_|refine SW.exit ?_|refine SW.ret ?_|refine SW.an rfl ?_|refine SW.ah rfl ?_));exact End.mk [] (h4:=⟨by simp only[h2,h3,show ¬ c.hold≠o.who by simpa using h4,h5,hn,Bool.not_false,Bool.not_true,Bool.true_or,Bool.false_or,Bool.or_true,Bool.or_false,if_true,if_false,Bool.false_eq_true,reduceIte];rfl,rfl⟩)
                . skip
                  rcases(Bool.eq_false_or_eq_true (decide ((o.cap:Int)>c.cap))).symm with h9|h9
                  rotate_left
                  . skip
                    have hn:ew o c=true:=by unfold ew;rw[h6,h7,h8,h9];simp
                    (repeat (first|refine SW.seq ?_|refine SW.block ?_|(have fx:=(Zq k1 (Zq h1 (Zq em (Zq kh (Zq h2 (Zq h3 (Zq h4 (Zq h5 (Zq h6 (Zq h7 (Zq h8 h9)))))))))));refine SW.bG da Zm ?_;(repeat (first|refine RW.ro fx (h:=?_)|refine RW.skip (h:=?_)|refine RW.op fx (h:=?_)|refine RW.di fx (h:=?_)|refine RW.aR (h:=?_)|(refine RW.aW (h:=?_);(first|refine ai.mk fx (hc:=hgc _) (h:=?_)|refine ai.mk fx (hc:=hfd _) (h:=?_)|refine ai.mk fx (hc:=cg _ _ _) (h:=?_)|refine ai.mk fx (hc:=gD _ 1 hgr ⟨by omega,by omega⟩ _) (h:=?_)|refine ai.mk fx (hc:=gx _ _ ho hgr _) (h:=?_)))));refine RW.nil ⟨by kernel_rfl,ak.mk (h:=?_)⟩)|refine SW.skip ?_|refine SW.exit ?_|refine SW.ret ?_|refine SW.an rfl ?_|refine SW.ah rfl ?_));exact End.mk [] (h4:=⟨by simp only[h2,h3,show ¬ c.hold≠o.who by simpa using h4,h5,hn,Bool.not_false,Bool.not_true,Bool.true_or,Bool.false_or,Bool.or_true,Bool.or_false,if_true,if_false,Bool.false_eq_true,reduceIte];rfl,rfl⟩)
                  . skip
                    have hn:ew o c=false:=by unfold ew;rw[h6,h7,h8,h9];rfl
                    (repeat (first|refine SW.seq ?_|refine SW.block ?_|(have fx:=(Zq k1 (Zq h1 (Zq em (Zq kh (Zq h2 (Zq h3 (Zq h4 (Zq h5 (Zq h6 (Zq h7 (Zq h8 h9)))))))))));refine SW.bG da Zm ?_;(repeat (first|refine RW.ro fx (h:=?_)|refine RW.skip (h:=?_)|refine RW.op fx (h:=?_)|refine RW.di fx (h:=?_)|refine RW.aR (h:=?_)|(refine RW.aW (h:=?_);(first|refine ai.mk fx (hc:=hgc _) (h:=?_)|refine ai.mk fx (hc:=hfd _) (h:=?_)|refine ai.mk fx (hc:=cg _ _ _) (h:=?_)|refine ai.mk fx (hc:=gD _ 1 hgr ⟨by omega,by omega⟩ _) (h:=?_)|refine ai.mk fx (hc:=gx _ _ ho hgr _) (h:=?_)))));refine RW.nil ⟨by kernel_rfl,ak.mk (h:=?_)⟩)|refine SW.skip ?_|refine SW.exit ?_|refine SW.ret ?_|refine SW.an rfl ?_|refine SW.ah rfl ?_));exact End.mk [] (h4:=⟨by simp only[h2,h3,show ¬ c.hold≠o.who by simpa using h4,h5,hn,Bool.not_false,Bool.not_true,Bool.true_or,Bool.false_or,Bool.or_true,Bool.or_false,if_true,if_false,Bool.false_eq_true,reduceIte];rfl,rfl⟩)
end
end
section
section
attribute [local irreducible] SW RW aF SC ai ak bH dI
variable {l:List ag} (hlen:l.length<4611686018427387904) (hl:∀ x,x∈l->x.aT<256)
include hlen hl
set_option maxHeartbeats 4000000 in
theorem Fq (d:Dt):Go.Sl.Pure Tryz.prog ref16_get.f [ops l,.agg d.cells,i64 ((0:Nat):Int)] (.de [.agg (bH l 0 d).1.cells,bl (bH l 0 d).2]):=by
 refine ref16_get.enter (by first|rfl|simp[SV.ok,SV.au]) (by first|rfl|simp[Hp.ok,Ob.ok,SV.ok,SV.au,aB.aj]) (by simp) ?_;dsimp only[ref16_get.s,Co.M,Co.G,Co.J,Co.H,Co.F,Co.Z,Co.B,Co.b8,Co.ay,Co.bu,Co.i6,Co.bC,Co.T,Co.K,Co.E,Co.Q,Co.R,Co.x,Co.W,Co.Y,Co.O,Co.D,Co.S];have e:bH l 0 d=(Cr.zero,false):=by unfold bH;rfl
 rw[e];rcases hh:(aJ l d).isSome with _|_
 ·(repeat (first|refine SW.seq ?_|refine SW.block ?_|(refine SW.bG eI Zm ?_;(repeat (first|refine RW.ro hh (h:=?_)|refine RW.skip (h:=?_)|refine RW.op hh (h:=?_)|refine RW.di hh (h:=?_)|refine RW.aR (h:=?_)|(refine RW.aW (h:=?_);(first|refine ai.mk (hh) (hc:=pO l hlen _ _) (h:=?_)))));refine RW.nil ⟨by kernel_rfl,ak.mk (h:=?_)⟩)|refine SW.skip ?_|refine SW.exit ?_|refine SW.ret ?_|refine SW.an rfl ?_|refine SW.ah rfl ?_))
  exact End.mk [] (h4:=⟨rfl,rfl⟩)
 ·(repeat (first|refine SW.seq ?_|refine SW.block ?_|(refine SW.bG eI Zm ?_;(repeat (first|refine RW.ro hh (h:=?_)|refine RW.skip (h:=?_)|refine RW.op hh (h:=?_)|refine RW.di hh (h:=?_)|refine RW.aR (h:=?_)|(refine RW.aW (h:=?_);(first|refine ai.mk (hh) (hc:=pO l hlen _ _) (h:=?_)))));refine RW.nil ⟨by kernel_rfl,ak.mk (h:=?_)⟩)|refine SW.skip ?_|refine SW.exit ?_|refine SW.ret ?_|refine SW.an rfl ?_|refine SW.ah rfl ?_))
  exact End.mk [] (h4:=⟨rfl,rfl⟩)
set_option maxHeartbeats 4000000 in
theorem Fs (m:Nat)(hm:m<1000)(d:Dt)(hw:∀ o k,o∈l->aF Tryz.prog ref16_why.f [ops l,.agg o.cells,i64 ((m+1:Nat):Int)] [] k 0 (.de [.agg (dI l (bH l m o.aN) o).1.cells,i64 (dI l (bH l m o.aN) o).2]) []):
  Go.Sl.Pure Tryz.prog ref16_get.f [ops l,.agg d.cells,i64 ((m+1:Nat):Int)] (.de [.agg (bH l (m+1) d).1.cells,bl (bH l (m+1) d).2]):=by
 refine ref16_get.enter (by first|rfl|simp[SV.ok,SV.au]) (by first|rfl|simp[Hp.ok,Ob.ok,SV.ok,SV.au,aB.aj]) (by simp) ?_;dsimp only[ref16_get.s,Co.M,Co.G,Co.J,Co.H,Co.F,Co.Z,Co.B,Co.b8,Co.ay,Co.bu,Co.i6,Co.bC,Co.T,Co.K,Co.E,Co.Q,Co.R,Co.x,Co.W,Co.Y,Co.O,Co.D,Co.S];have k1:(((m+1:Nat):Int) == 0)=false:=by rw[Bool.eq_false_iff];intro h;have:=beq_iff_eq.mp h;omega
 have hgr:bH l (m+1) d=(match aJ l d with
  | none=>(Cr.zero,false)
  | some o=>if o.kind=0 then (⟨d,d,⟨0,0⟩,o.who,7,8,1099511627776,0⟩,decide (o.aI=d)) else
   if (dI l (bH l m o.aN) o).2≠0 then (Cr.zero,false) else (⟨d,o.aI,o.aN,o.to,o.aT,o.depth,o.cap,IntKind.i64.wrap ((dI l (bH l m o.aN) o).1.level+1)⟩,true)):=by
  first|(rw[bH];done)|(rw[bH];cases aJ l d<;>rfl)
 rw[hgr];have hf:=pO l hlen d;rcases hh:aJ l d with _|o
 .rw[hh] at hf
  simp only[Option.getD_none,Option.isSome_none] at hf;(repeat (first|refine SW.seq ?_|refine SW.block ?_|refine SW.g1 eI Zm k1 hf ?_|refine SW.skip ?_|refine SW.exit ?_|refine SW.ret ?_|refine SW.an rfl ?_|refine SW.ah rfl ?_));exact End.mk [] (h4:=⟨rfl,rfl⟩)
 .rw[hh] at hf
  simp only[Option.getD_some,Option.isSome_some] at hf;have ho:o∈l:=List.mem_of_find?_eq_some hh;have hw':=λ k=>hw o k ho
  dsimp only;have k0:(((o.kind:Nat):Int) == 0)=decide (o.kind=0):=by rw[Bool.eq_iff_iff];simp only[beq_iff_eq,decide_eq_true_eq];omega
  rcases(Bool.eq_false_or_eq_true (decide (o.kind=0))).symm with h1|h1
  rotate_left
  .rw[if_pos (by simpa using h1)]
   (repeat (first|refine SW.seq ?_|refine SW.block ?_|refine SW.g2 eI Zm (Zq k1 (Zq k0 (Zq h1 mR))) hf hw' ?_|refine SW.skip ?_|refine SW.exit ?_|refine SW.ret ?_|refine SW.an rfl ?_|refine SW.ah rfl ?_));exact End.mk [] (h4:=⟨rfl,rfl⟩)
  .rw[if_neg (by simpa using h1)]
   obtain⟨r,hr⟩:∃ r,dI l (bH l m o.aN) o=r:=⟨_,rfl⟩;rw[hr] at hw' ⊢;have k2:(((r.2:Nat):Int) != 0)=decide (r.2≠0):=by rw[Bool.eq_iff_iff];simp only[bne_iff_ne,decide_eq_true_eq];omega
   rcases(Bool.eq_false_or_eq_true (decide (r.2≠0))).symm with h2|h2
   rotate_left
   .rw[if_pos (by simpa using h2)]
    (repeat (first|refine SW.seq ?_|refine SW.block ?_|refine SW.g2 eI Zm (Zq k1 (Zq k0 (Zq h1 (Zq k2 (Zq h2 qE))))) hf hw' ?_|refine SW.skip ?_|refine SW.exit ?_|refine SW.ret ?_|refine SW.an rfl ?_|refine SW.ah rfl ?_));exact End.mk [] (h4:=⟨rfl,rfl⟩)
   .rw[if_neg (by simpa using h2)]
    (repeat (first|refine SW.seq ?_|refine SW.block ?_|refine SW.g2 eI Zm (Zq k1 (Zq k0 (Zq h1 (Zq k2 (Zq h2 qE))))) hf hw' ?_|refine SW.skip ?_|refine SW.exit ?_|refine SW.ret ?_|refine SW.an rfl ?_|refine SW.ah rfl ?_));exact End.mk [] (h4:=⟨rfl,rfl⟩)
theorem IQ (m:Nat)(hm:m<1000):∀ d,Go.Sl.Pure Tryz.prog ref16_get.f [ops l,.agg d.cells,i64 (m:Int)] (.de [.agg (bH l m d).1.cells,bl (bH l m d).2]):=by
 induction m with
 | zero=>intro d;exact Fq hlen hl d
 | succ m ih=>
  intro d;exact Fs hlen hl m (by omega) d λ o k ho=>(B4 hlen hl m (by omega) o (hl o ho) λ d k=>(ih (by omega) d).sc rfl k).sc rfl k
theorem B5 (m:Nat)(hm:m<1000)(d:Dt)(k:Nat):aF Tryz.prog ref16_get.f [ops l,.agg d.cells,i64 (m:Int)] [] k 0 (.de [.agg (bH l m d).1.cells,bl (bH l m d).2]) []:=(IQ hlen hl m hm d).sc rfl k
theorem IS (m:Nat)(hm:m<1000)(o:ag)(ho:o.aT<256)(k:Nat):aF Tryz.prog ref16_why.f [ops l,.agg o.cells,i64 ((m+1:Nat):Int)] [] k 0 (.de [.agg (dI l (bH l m o.aN) o).1.cells,i64 (dI l (bH l m o.aN) o).2]) []:=
 (B4 hlen hl m hm o ho λ d k=>B5 hlen hl m hm d k).sc rfl k
theorem IT (d:Dt):Go.Sl.Pure Tryz.prog ref16_Get.f [ops l,.agg d.cells] (.de [.agg (bH l 10 d).1.cells,bl (bH l 10 d).2]):=by
 have hg:=λ k=>B5 hlen hl 10 (by omega) d k
 refine ref16_Get.enter (by first|rfl|simp[SV.ok,SV.au]) (by first|rfl|simp[Hp.ok,Ob.ok,SV.ok,SV.au,aB.aj]) (by simp) ?_;dsimp only[ref16_Get.s,Co.M,Co.J,Co.F,Co.C,Co.Z,Co.B,Co.b8,Co.ay,Co.bu,Co.i6,Co.K,Co.E,Co.x,Co.W,Co.S];(repeat (first|refine SW.seq ?_|refine SW.block ?_|refine SW.g1 [0,1,3,4,5] Zm af hg ?_|refine SW.skip ?_|refine SW.exit ?_|refine SW.ret ?_|refine SW.an rfl ?_|refine SW.ah rfl ?_));exact End.mk [] (h4:=⟨rfl,rfl⟩)
theorem IU (o:ag)(ho:o.aT<256):Go.Sl.Pure Tryz.prog ref16_Why.f [ops l,.agg o.cells] (i64 (dI l (bH l 10 o.aN) o).2):=by
 have hg:=λ k=>IS hlen hl 10 (by omega) o ho k
 refine ref16_Why.enter (by first|rfl|simp[SV.ok,SV.au]) (by first|rfl|simp[Hp.ok,Ob.ok,SV.ok,SV.au,aB.aj]) (by simp) ?_;dsimp only[ref16_Why.s,Co.M,Co.J,Co.F,Co.C,Co.Z,Co.b8,Co.ay,Co.bu,Co.i6,Co.K,Co.E,Co.x,Co.W,Co.S];(repeat (first|refine SW.seq ?_|refine SW.block ?_|refine SW.g1 [0,1,3,4,6] Zm af hg ?_|refine SW.skip ?_|refine SW.exit ?_|refine SW.ret ?_|refine SW.an rfl ?_|refine SW.ah rfl ?_));exact End.mk [] (h4:=⟨rfl,rfl⟩)
end
section
variable {l:List ag} (hlen:l.length<4611686018427387904) (hl:∀ x,x∈l->x.aT<256)
include hlen hl
theorem yq (d:Dt)(k:Nat):aF Tryz.prog ref16_Get.f [ops l,.agg d.cells] [] k 0 (.de [.agg (bH l 10 d).1.cells,bl (bH l 10 d).2]) []:=(IT hlen hl d).sc rfl k
theorem IV (o:ag)(ho:o.aT<256)(k:Nat):aF Tryz.prog ref16_Why.f [ops l,.agg o.cells] [] k 0 (i64 (dI l (bH l 10 o.aN) o).2) []:=(IU hlen hl o ho).sc rfl k
end
end
end Go.Proofs.YtaelhkkjgfobhaaGreat
