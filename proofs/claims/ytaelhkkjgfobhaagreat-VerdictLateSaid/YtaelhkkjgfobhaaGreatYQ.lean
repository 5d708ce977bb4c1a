/-
 Verdicts: the law of a revoke that knows a whole history.
-/
import Derived.Test.YtaelhkkjgfobhaaGreatRows
import Derived.SizedLaws
import Derived.Test.YtaelhkkjgfobhaaGreatS9
import Derived.Test.YtaelhkkjgfobhaaGreatSJ
import Derived.Test.YtaelhkkjgfobhaaGreatSH
set_option linter.unusedSectionVars false
set_option linter.unusedVariables false
set_option linter.unusedSimpArgs false
namespace Go.Proofs.YtaelhkkjgfobhaaGreat
open Go.Sl Go.Proofs
attribute [local irreducible] SW RW aH SC aj ak js sG
theorem Bh {l:List ag}(hrow:lN l){r:ag}(hk:r.kind<256)(hz:r.nz.lines= .sl 0 []):lN (l++[r.nz]):=λ o ho=>by
 rcases List.mem_append.1 ho with ho|ho
 .exact hrow o ho
 .rw[List.mem_singleton.1 ho]
  have:=ag.mC.of (o:=r.nz) (l:=[]) hz (by simp);exact⟨hk,this.1,by rw[this.2];simp⟩
theorem DK (l:List ag):(qt l).length=l.length*29:=by unfold qt;rw[List.length_map,fV]
set_option maxHeartbeats 16000000 in
theorem Cz (l:List ag)(n:Int)(x0 x1:Nat)(hx0:x0<256)(hx1:x1<256)(hd:∀ o,o∈l->o.bn<256/\o.kind<256/\o.mC/\o.dot.wf/\o.cl.length<=140737488351232)(hlen:l.length<=9223372036854775807):
    SB Tryz.prog law19_VerdictLate.f [ops l,.d (.int .i64 n),.agg [u8 x0,u8 x1]] [] 0 0 (λ r F=>r=bl true):=by
  refine law19_VerdictLate.enter (by first|rfl|simp[SV.ok,SV.ax]) (by first|rfl|simp[Hp.ok,Ob.ok,SV.ok,SV.ax,ay.ah]) (by simp) ?_;dsimp only[law19_VerdictLate.s,Co.M,Co.G,Co.J,Co.H,Co.N,Co.F,Co.C,Co.Z,Co.B,Co.b8,Co.aB,Co.bE,Co.z8,Co.bH];have hG':=Ay l (λ o ho=>⟨_,_,(hd o ho).2.2.1.eq,(hd o ho).2.2.1.le⟩) hlen;refine SW.seq (SW.g0 ao Zm aa ?_);refine SW.seq (SW.seq ?_);rcases hG:jk l with _|_
  rotate_left
  . rw[hG] at hG'
    refine SW.g2 ao Zm aa hG' bY ?_;refine SW.ai rfl (SW.seq (SW.g2 ao Zm aa hG' bY ?_));refine SW.ret ?_;exact End.mk [] (h4:=rfl)
  rw[hG] at hG';have zD:=s_ hG;have hd':=ud hG (λ o ho=>⟨(hd o ho).2.2.1,(hd o ho).2.2.2.2⟩);have hrow:lN l:=λ o ho=>⟨(hd o ho).2.1,(hd o ho).2.2.1,hd' o ho⟩
  have cH:=wO l hlen n (λ o ho=>⟨(hd o ho).2.2.2.1,(hd o ho).2.1,(hd o ho).2.2.1⟩);rcases h40:decide ((l.length:Int)>40) with _|_
  rotate_left
  . skip
    refine SW.g2 ao Zm h40 hG' bY ?_;refine SW.ai rfl (SW.seq (SW.g2 ao Zm aa hG' bY ?_));refine SW.ret ?_;exact End.mk [] (h4:=rfl)
  rcases h0:((l.length:Int) == 0) with _|_
  rotate_left
  . skip
    refine SW.g2 ao Zm (Zq h40 h0) hG' bY ?_;refine SW.ai rfl (SW.seq (SW.g2 ao Zm aa hG' bY ?_));refine SW.ret ?_;exact End.mk [] (h4:=rfl)
  obtain⟨z,hz⟩:∃ z,mR n l=z:=⟨_,rfl⟩;rw[hz] at cH;rcases hz0:(z != 0) with _|_
  rotate_left
  . skip
    refine SW.g4 ao Zm (Zq h40 (Zq h0 hz0)) hG' cH bY trivial ?_;refine SW.ai rfl (SW.seq (SW.g4 ao Zm aa hG' cH bY trivial ?_));refine SW.ret ?_;exact End.mk [] (h4:=rfl)
  refine SW.g2 ao Zm (Zq h40 (Zq h0 hz0)) hG' cH ?_;refine SW.an rfl (SW.skip ?_);have hH:o8 n l:=qR.1 (by rw[hz];simpa using hz0);have l40:l.length<=40:=by simp only[decide_eq_false_iff_not] at h40;omega
  have l0:0<l.length:=by
    have:(l.length:Int)≠0:=by simpa using h0
    omega
  have k40:(bu l).get 0<=40:=by have:=KN hH (r:=0) (by decide);omega
  have ht48:∀ o,o∈l->o.time<=281474976710656:=λ o ho=>(hH.form o ho).t2
  have cK:=wT l hlen;have hnz:=IG (l:=l) λ o ho=>(hd o ho).2.2.1
  have hsame:=λ (t:Nat) (b a:ag) (d:Dt) (h:d∈qB l)=>EV hH (.sl 0 []) t b a h
  have hhit:=λ (t:Nat) (b a:ag)=>IF hH (.sl 0 []) (.sl 0 []) t b a
  obtain⟨kn,hkn⟩:∃ kn,bu l=kn:=⟨_,rfl⟩;rw[hkn] at cK k40;simp only[hkn] at hsame hhit;refine SW.seq (SW.g1 ao Zm aa cK ?_);refine SW.weak id (st1:=⟨[(8,.d (.int .u64 0)),(7,.ptr 1 0),(5,.ptr 0 0),(0,ops l)],[(1,.box 39 kn.cells),(0,.box 87 [u8 x0,u8 x1])],2⟩) (aG.same (Nat.zero_le _) (by simp[aJ,List.lookup,SV.aC,SV.ok,SV.ax]) (by simp[Hp.ok,Ob.ok,ay.ah,SV.ax,SV.ok]) (λ y hy=> ?_)) ?_
  . simp only[List.mem_cons,List.not_mem_nil,or_false] at hy
    rcases hy with rfl|rfl<;>rfl
  refine SW.seq (SW.seq ?_);refine SW.g0 ao Zm aa ?_;refine SW.block ?_;refine SW.loop (α:={s:Nat×Nat // s.1<=l.length/\s.2<=281474976710656}) (λ s=>⟨[(9,i64 s.1.1),(8,.d (.int .u64 (s.1.2:Int))),(7,.ptr 1 0),(5,.ptr 0 0),(0,ops l)],[(1,.box 39 kn.cells),(0,.box 87 [u8 x0,u8 x1])],2⟩) (λ s=>l.length - s.1.1) ⟨(0,0),by simp⟩ id (aG.same (Nat.zero_le _) (by simp[aJ,List.lookup,SV.aC,SV.ok,SV.ax]) (by simp[Hp.ok,Ob.ok,ay.ah,SV.ax,SV.ok]) (λ y hy=>by
    simp only[List.mem_cons,List.not_mem_nil,or_false] at hy;rcases hy with rfl|rfl<;>rfl)) ?_
  rintro⟨⟨i,t⟩,hi,E9⟩;dsimp only at hi E9 ⊢
  by_cases h:i<l.length
  . obtain⟨x,hx⟩:=aX h
    have h1:decide ((i:Int)<l.length)=true:=by simp only[decide_eq_true_eq];omega
    have e2:IntKind.i64.wrap ((i:Int)+1)=((i+1:Nat):Int):=wrap_i64 _ (by omega);have gt:(List.map SV.d (l.flatMap ag.ds))[i*29+10]? =some (.d (.int .u64 (x.time:Int))):=by rw[vB hx (by omega)];rfl
    have hxt:=ht48 x (List.mem_of_getElem? hx);have e7:(if (x.time:Int)>(t:Int) then (x.time:Int) else (t:Int))=((max t x.time:Nat):Int):=by split<;>omega
    refine SW.seq (SW.seq ?_);refine SW.g0 ao Zm h1 ?_;refine SW.ai rfl (SW.skip ?_);refine SW.seq (SW.block ?_);refine SW.g0 ao Zm (Zq gt e7) ?_;refine SW.g0 ao Zm e2 ?_;exact⟨⟨(i+1,max t x.time),by show i+1<=l.length;omega,by show max t x.time<=_;omega⟩,id,by show l.length - (i+1)<_;omega,aG.same (Nat.zero_le _) (by simp[aJ,List.lookup,SV.aC,SV.ok,SV.ax]) (by simp[Hp.ok,Ob.ok,ay.ah,SV.ax,SV.ok]) (λ y hy=>by
      simp only[List.mem_cons,List.not_mem_nil,or_false] at hy;rcases hy with rfl|rfl<;>rfl)⟩
  have h1:decide ((i:Int)<l.length)=false:=by simp only[decide_eq_false_iff_not];omega
  refine SW.seq (SW.seq (SW.g0 ao Zm h1 ?_));refine SW.an rfl (SW.exit ?_);refine(?_:Sl.SW _ _ _ _ _ _);have hj0:=Nat.mod_lt x0 l0;have hj1:=Nat.mod_lt x1 l0;obtain⟨b,hb⟩:=aX hj0;obtain⟨a,ha⟩:=aX hj1;have p1:IntKind.i64.wrap (x0:Int)=(x0:Int):=wrap_i64 _ (by omega);have p2:(x0:Int).tmod (l.length:Int)=((x0 % l.length:Nat):Int):=(Int.ofNat_tmod x0 _).symm;have p3:IntKind.i64.wrap ((x0 % l.length:Nat):Int)=((x0 % l.length:Nat):Int):=wrap_i64 _ (by omega);have p4:IntKind.i64.wrap (x1:Int)=(x1:Int):=wrap_i64 _ (by omega);have p5:(x1:Int).tmod (l.length:Int)=((x1 % l.length:Nat):Int):=(Int.ofNat_tmod x1 _).symm;have p6:IntKind.i64.wrap ((x1 % l.length:Nat):Int)=((x1 % l.length:Nat):Int):=wrap_i64 _ (by omega);have hb':=hb;have ha':=ha;obtain⟨j0,ej0⟩:∃ j,x0 % l.length=j:=⟨_,rfl⟩;obtain⟨j1,ej1⟩:∃ j,x1 % l.length=j:=⟨_,rfl⟩;rw[ej0] at hb p2 p3 hj0;rw[ej1] at ha p5 p6 hj1;have zb:b_ BH 0 b.cells=b.cells:=rfl;have za:b_ BH 0 a.cells=a.cells:=rfl;refine SW.seq (SW.g0 ao Zm (Zq p1 (Zq p2 (Zq p3 (Zq p4 (Zq p5 (Zq p6 (Zq (gW hb) (Zq (cF hb) (Zq (gW ha) (Zq (cF ha) (Zq zb za))))))))))) ?_);have k0:kn.cells[0]? =some (.d (.int .u32 ((kn.get 0:Nat):Int))):=rfl;have kl:(0+8<=kn.cells.length)=True:=eq_true (Nat.le_refl 8);have kt:List.take 8 kn.cells=kn.cells:=rfl;have w1:IntKind.u32.wrap (((kn.get 0:Nat):Int)+1)=((kn.get 0+1:Nat):Int):=xe _ (by omega);have w2:IntKind.u64.wrap ((t:Int)+1)=((t+1:Nat):Int):=rO t 1 (by omega);have lc:∀ (o:ag) (i:Nat),i<=29->(i<=o.cells.length)=True:=λ o i h=>eq_true h
  have b11:b.cells[11]? =some (.d (.int .u32 (b.who:Int))):=rfl;have b14:b.cells[14]? =some (.d (.int .u8 (b.kind:Int))):=rfl;have b17:b.cells[17]? =some (.d (.int .u32 (b.to:Int))):=rfl;have b0:List.take 2 b.cells=b.dot.cells:=rfl;have a0:List.take 2 a.cells=a.dot.cells:=rfl;have a12:List.take 2 (List.drop 12 a.cells)=a.aK.cells:=rfl;have a17:a.cells[17]? =some (.d (.int .u32 (a.to:Int))):=rfl;have lb2:(0+2<=b.cells.length)=True:=lc b 2 (by decide);have la2:(0+2<=a.cells.length)=True:=lc a 2 (by decide);have la14:(12+2<=a.cells.length)=True:=lc a 14 (by decide);have lb11:(11+1<=b.cells.length)=True:=lc b 12 (by decide);have lb14:(14+1<=b.cells.length)=True:=lc b 15 (by decide);have lb17:(17+1<=b.cells.length)=True:=lc b 18 (by decide);have la17:(17+1<=a.cells.length)=True:=lc a 18 (by decide);obtain⟨R0,hR0⟩:∃ R0:ag,(⟨⟨0,kn.get 0+1⟩,kn,t+1,b.who,a.aK,2,b.dot,0,0,0,0,a.dot,⟨0,0⟩,0,0,0,.aL⟩:ag)=R0:=⟨_,rfl⟩;have zR:b_ BH 0 R0.cells=R0.cells:=rfl;refine SW.weak id (st1:=⟨[(11,.ptr 3 0),(10,.ptr 2 0),(8,.d (.int .u64 (t:Int))),(7,.ptr 1 0),(0,ops l)],[(3,.box 43 a.cells),(2,.box 43 b.cells),(1,.box 39 kn.cells)],4⟩) (aG.same (Nat.zero_le _) (by simp[aJ,List.lookup,SV.aC,SV.ok,SV.ax]) (by simp[Hp.ok,Ob.ok,ay.ah,ag.ah,SV.ax,SV.ok]) (λ y hy=> ?_)) ?_
  . simp only[List.mem_cons,List.not_mem_nil,or_false] at hy
    rcases hy with rfl|rfl|rfl<;>rfl
  refine SW.seq ?_
  (have fx:=(Zq k0 (Zq kl (Zq kt (Zq w1 (Zq w2 (Zq b11 (Zq lb11 (Zq a12 (Zq la14 (Zq b0 (Zq lb2 (Zq a0 la2))))))))))));refine SW.di ao Zm ?_;(repeat (first|refine RW.wE (Dt.mk 0 (kn.get 0+1)).cells rfl rfl (by repeat' (first|exact trivial|exact rfl|exact Nat.le_of_ble_eq_true rfl|refine Zq ?_ ?_)) (h:=?_)|refine RW.wE (ag.cells ⟨⟨0,kn.get 0+1⟩,kn,t+1,b.who,a.aK,2,b.dot,0,0,0,0,a.dot,⟨0,0⟩,0,0,0,.aL⟩) rfl rfl (by repeat' (first|exact trivial|exact rfl|exact Nat.le_of_ble_eq_true rfl|refine Zq ?_ ?_)) (h:=?_)|refine RW.ro fx (h:=?_)|refine RW.skip (h:=?_)|refine RW.op fx (h:=?_)|refine RW.dV fx (h:=?_)|refine RW.br (h:=?_)));refine RW.nil ⟨bM (by kernel_rfl),ak.mk (h:=?_)⟩)
  rw[hR0];obtain⟨R,hR⟩:∃ R,oK .aL kn t b a=R:=⟨_,rfl⟩;have hsb:b.kind=1->b_ R0.cells 11 [.d (.int .u32 (b.to:Int))]=R.cells:=λ e=>by
    rw[<- hR0,<- hR];unfold oK;rw[if_pos e];rfl
  have hsn:b.kind≠1->R0.cells=R.cells:=λ e=>by
    rw[<- hR0,<- hR];unfold oK;rw[if_neg e]
  have lR0:(11+1<=R0.cells.length)=True:=lc R0 12 (by decide);refine SW.cut ⟨[(12,.ptr 4 0),(11,.ptr 3 0),(8,.d (.int .u64 (t:Int))),(7,.ptr 1 0),(0,ops l)],[(4,.box 43 R.cells),(3,.box 43 a.cells),(1,.box 39 kn.cells)],5⟩ id ?_ ?_
  . by_cases hk:b.kind=1
    . have h2:((b.kind:Int) == 1)=true:=by rw[hk];rfl
      have hs:=hsb hk;refine SW.seq ?_;refine SW.g0 ao Zm (Zq b14 (Zq lb14 h2)) ?_;refine SW.ai rfl ?_;refine SW.g0 ao Zm (Zq b17 (Zq lb17 (Zq lR0 hs))) ?_;exact aG.same (Nat.zero_le _) (by simp[aJ,List.lookup,SV.aC,SV.ok,SV.ax]) (by simp[Hp.ok,Ob.ok,ay.ah,ag.ah,SV.ax,SV.ok]) (λ y hy=>by
        simp only[List.mem_cons,List.not_mem_nil,or_false] at hy;rcases hy with rfl|rfl|rfl<;>rfl)
    . have h2:((b.kind:Int) == 1)=false:=by
        have:(b.kind:Int)≠1:=by omega
        simpa using this
      rw[hsn hk];refine SW.seq ?_;refine SW.g0 ao Zm (Zq b14 (Zq lb14 h2)) ?_;refine SW.an rfl (SW.skip ?_);exact aG.same (Nat.zero_le _) (by simp[aJ,List.lookup,SV.aC,SV.ok,SV.ax]) (by simp[Hp.ok,Ob.ok,ay.ah,ag.ah,SV.ax,SV.ok]) (λ y hy=>by
        simp only[List.mem_cons,List.not_mem_nil,or_false] at hy;rcases hy with rfl|rfl|rfl<;>rfl)
  have t29:List.take 29 R.cells=R.cells:=rfl;have l29:(0+29<=R.cells.length)=True:=lc R 29 (by decide);have ocl:=DK l;refine SW.seq ?_
  (have fx:=(Zq t29 (Zq l29 ocl));refine SW.di ao Zm ?_;(repeat (first|refine RW.ro fx (h:=?_)|refine RW.skip (h:=?_)|refine RW.op fx (h:=?_)|refine RW.dV fx (h:=?_)|refine RW.br (h:=?_)|refine oQ rfl rfl (h:=?_)));refine RW.nil ⟨bM (by kernel_rfl),ak.mk (h:=?_)⟩)
  have hRn:oK (.sl 0 []) kn t b a=R.nz:=by rw[<- hR];rfl
  have hRk:R.kind<256:=by rw[<- hR];show 2<256;decide
  have hRl:R.nz.lines= .sl 0 []:=by rw[<- hR];rfl
  have dR:List.take 2 R.cells=R.dot.cells:=rfl;have lR2:(0+2<=R.cells.length)=True:=lc R 2 (by decide);have hsame:=hsame t b a;have hhit:=hhit t b a;rw[hRn] at hhit;simp only[hRn] at hsame;clear hR hR0 hsb hsn;have hrow1:=Bh hrow hRk hRl;have m1:(l++[R]).map ag.nz=l++[R.nz]:=by rw[List.map_append,hnz];rfl
  have n1:(l++[R]).length<=80:=by rw[List.length_append,List.length_singleton];omega
  have cO1:=Bb l zD hrow 8;have cO2:=SC.F3 (m:=7) (t:=43) (sz:=29) (LF (l++[R]) n1 (by rw[m1];exact hrow1) 9) (by decide) (zC _) (by simp) (fV _) (by decide);rw[m1] at cO2;have hK:∀ d,d∈qB l->(dQ l).get d=(dQ (l++[R.nz])).get d:=λ d h=>by rw[ej,ej];exact hsame d h
  have hKR:(dQ (l++[R.nz])).get R.dot=jv (l++[R.nz]) R.nz.dot:=ej _ _;generalize dQ l=K1 at cO1 hK;generalize dQ (l++[R.nz])=K2 at cO2 hK hKR;have e5:l.length+ [R].length=(l++[R]).length:=by simp
  have e6:List.map SV.d (l.flatMap ag.ds)++List.map SV.d ([R].flatMap ag.ds)=qt (l++[R]):=by simp[qt]
  obtain⟨L1,hL1⟩:∃ L1,l++[R]=L1:=⟨_,rfl⟩;rw[hL1] at n1 m1 cO2 e5 e6;refine SW.weak id (st1:=⟨[(13,.gs 7 L1.length),(12,.ptr 4 0),(11,.ptr 3 0),(8,.d (.int .u64 (t:Int))),(7,.ptr 1 0),(0,ops l)],[(7,.arr 43 29 L1.length (qt L1)),(4,.box 43 R.cells),(3,.box 43 a.cells),(1,.box 39 kn.cells)],8⟩) (aG.same (Nat.zero_le _) (by rw[e5];simp[aJ,List.lookup,SV.aC,SV.ok,SV.ax]) (by simp[Hp.ok,Ob.ok,ay.ah,ag.ah,SV.ax,SV.ok,SV.aW]) (λ y hy=> ?_)) ?_
  . rw[e5,e6]
    simp only[List.mem_cons,List.not_mem_nil,or_false] at hy;rcases hy with rfl|rfl|rfl|rfl<;>rfl
  refine SW.seq ?_;refine SW.g2 ao Zm aa cO1 cO2 ?_;refine SW.seq (SW.seq ?_);refine SW.g0 ao Zm aa ?_;refine SW.block ?_;refine SW.loop (α:={i:Nat // i<=l.length}) (λ i=>⟨[(16,i64 i.1),(15,.mp 9),(14,.mp 8),(13,.gs 7 L1.length),(12,.ptr 4 0),(11,.ptr 3 0),(8,.d (.int .u64 (t:Int))),(7,.ptr 1 0),(0,ops l)],[(9,uf K2),(8,uf K1),(7,.arr 43 29 L1.length (qt L1)),(4,.box 43 R.cells),(3,.box 43 a.cells),(1,.box 39 kn.cells)],10⟩) (λ i=>l.length - i.1) ⟨0,Nat.zero_le _⟩ id (aG.same (Nat.zero_le _) (by simp[aJ,List.lookup,SV.aC,SV.ok,SV.ax]) (by simp[Hp.ok,Ob.ok,dH,ay.ah,ag.ah,SV.ax,SV.ok,SV.aW]) (λ y hy=>by
    simp only[List.mem_cons,List.not_mem_nil,or_false] at hy;rcases hy with rfl|rfl|rfl|rfl|rfl|rfl<;>rfl)) ?_
  rintro⟨i',hi'⟩;dsimp only
  by_cases hik:i'<l.length
  . obtain⟨x,hx⟩:=aX hik
    have h1:decide ((i':Int)<l.length)=true:=by simp only[decide_eq_true_eq];omega
    have e2:IntKind.i64.wrap ((i':Int)+1)=((i'+1:Nat):Int):=wrap_i64 _ (by omega);have hE:=hK x.dot (Dt.mem_set.2 (List.mem_map.2 ⟨x,List.mem_of_getElem? hx,rfl⟩));have k1:=kJ K1.m x.dot;change _=SV.d (.int .u8 ((K1.get x.dot:Nat):Int)) at k1;have k2:=kJ K2.m x.dot;change _=SV.d (.int .u8 ((K2.get x.dot:Nat):Int)) at k2;rw[hE] at k1;have hne:(((K2.get x.dot:Nat):Int) != ((K2.get x.dot:Nat):Int))=false:=by simp
    generalize ((K2.get x.dot:Nat):Int)=g at k1 k2 hne;dsimp only[uf];refine SW.seq (SW.seq ?_);refine SW.g0 ao Zm h1 ?_;refine SW.ai rfl (SW.skip ?_);refine SW.seq (SW.block (SW.seq ?_));refine SW.g0 ao Zm (Zq (p_ hx) (Zq (mW hx) (Zq k1 (Zq k2 hne)))) ?_;refine SW.an rfl (SW.skip ?_);refine SW.g0 ao Zm e2 ?_;exact⟨⟨i'+1,by omega⟩,id,by show l.length - (i'+1)<_;omega,aG.same (Nat.zero_le _) (by simp[aJ,List.lookup,SV.aC,SV.ok,SV.ax]) (by simp[Hp.ok,Ob.ok,dH,ay.ah,ag.ah,SV.ax,SV.ok,SV.aW]) (λ y hy=>by
      simp only[List.mem_cons,List.not_mem_nil,or_false] at hy;rcases hy with rfl|rfl|rfl|rfl|rfl|rfl<;>rfl)⟩
  have h1:decide ((i':Int)<l.length)=false:=by simp only[decide_eq_false_iff_not];omega
  refine SW.seq (SW.seq ?_);refine SW.g0 ao Zm h1 ?_;refine SW.an rfl (SW.exit ?_);refine(?_:Sl.SW _ _ _ _ _ _);refine SW.weak id (st1:=⟨[(15,.mp 9),(13,.gs 7 L1.length),(12,.ptr 4 0),(11,.ptr 3 0),(8,.d (.int .u64 (t:Int))),(7,.ptr 1 0)],[(9,uf K2),(7,.arr 43 29 L1.length (qt L1)),(4,.box 43 R.cells),(3,.box 43 a.cells),(1,.box 39 kn.cells)],10⟩) (aG.same (Nat.zero_le _) (by simp[aJ,List.lookup,SV.aC,SV.ok,SV.ax]) (by simp[Hp.ok,Ob.ok,dH,ay.ah,ag.ah,SV.ax,SV.ok,SV.aW]) (λ y hy=>by
    simp only[List.mem_cons,List.not_mem_nil,or_false] at hy;rcases hy with rfl|rfl|rfl|rfl|rfl<;>rfl)) ?_
  have w3:IntKind.u32.wrap (((kn.get 0:Nat):Int)+2)=((kn.get 0+2:Nat):Int):=yQ _ 2 (by omega);have w4:IntKind.u64.wrap ((t:Int)+2)=((t+2:Nat):Int):=rO t 2 (by omega);obtain⟨O0,hO0⟩:∃ O0:ag,(⟨⟨0,kn.get 0+2⟩,kn,t+2,a.to,a.aK,3,a.dot,0,0,0,0,⟨0,0⟩,⟨0,0⟩,0,1,0,.aL⟩:ag)=O0:=⟨_,rfl⟩;refine SW.seq ?_
  (have fx:=(Zq k0 (Zq kl (Zq kt (Zq w3 (Zq w4 (Zq a12 (Zq la14 (Zq a17 (Zq la17 (Zq a0 la2))))))))));refine SW.di ao Zm ?_;(repeat (first|refine RW.wE (Dt.mk 0 (kn.get 0+2)).cells rfl rfl (by repeat' (first|exact trivial|exact rfl|exact Nat.le_of_ble_eq_true rfl|refine Zq ?_ ?_)) (h:=?_)|refine RW.wE (ag.cells ⟨⟨0,kn.get 0+2⟩,kn,t+2,a.to,a.aK,3,a.dot,0,0,0,0,⟨0,0⟩,⟨0,0⟩,0,1,0,.aL⟩) rfl rfl (by repeat' (first|exact trivial|exact rfl|exact Nat.le_of_ble_eq_true rfl|refine Zq ?_ ?_)) (h:=?_)|refine RW.ro fx (h:=?_)|refine RW.skip (h:=?_)|refine RW.op fx (h:=?_)|refine RW.dV fx (h:=?_)|refine RW.br (h:=?_)));refine RW.nil ⟨bM (by kernel_rfl),ak.mk (h:=?_)⟩)
  rw[hO0];obtain⟨O,hO⟩:∃ O,yF .aL kn t a=O:=⟨_,rfl⟩;have c2:O0.cells[2]? =some (.d (.int .u32 ((kn.get 0:Nat):Int))):=by rw[<- hO0];rfl
  have lO0:(2+1<=O0.cells.length)=True:=lc O0 3 (by decide);have sO:b_ O0.cells 2 [.d (.int .u32 ((kn.get 0+1:Nat):Int))]=O.cells:=by rw[<- hO0,<- hO];rfl
  refine SW.seq (SW.g0 ao Zm (Zq c2 (Zq lO0 (Zq w1 sO))) ?_);have hOn:yF (.sl 0 []) kn t a=O.nz:=by rw[<- hO];rfl
  have hOk:O.kind<256:=by rw[<- hO];show 3<256;decide
  have hOl:O.nz.lines= .sl 0 []:=by rw[<- hO];rfl
  have dO:List.take 2 O.cells=O.dot.cells:=rfl;have lO2:(0+2<=O.cells.length)=True:=lc O 2 (by decide);have o29:List.take 29 O.cells=O.cells:=rfl;have lO29:(0+29<=O.cells.length)=True:=lc O 29 (by decide);rw[hOn] at hhit;clear hO hO0 sO c2;have hrow2:=Bh hrow1 hOk hOl;have m2:(L1++[O]).map ag.nz=l++[R.nz]++[O.nz]:=by rw[List.map_append,m1];rfl
  have n2:(L1++[O]).length<=80:=by rw[List.length_append,List.length_singleton,<- hL1,List.length_append,List.length_singleton];omega
  have hKO:(dQ (l++[R.nz]++[O.nz])).get O.dot=jv (l++[R.nz]++[O.nz]) O.nz.dot:=ej _ _;have cO3:=SC.F3 (m:=11) (t:=43) (sz:=29) (LF (L1++[O]) n2 (by rw[m2];exact hrow2) 12) (by decide) (zC _) (by simp) (fV _) (by decide);rw[m2,show(L1++[O]).length=L1.length+ [O].length from List.length_append,show List.map SV.d ((L1++[O]).flatMap ag.ds)=List.map SV.d (L1.flatMap ag.ds)++List.map SV.d ([O].flatMap ag.ds) by rw[List.flatMap_append,List.map_append]] at cO3;generalize dQ (l++[R.nz]++[O.nz])=K3 at cO3 hKO;have l41:L1.length<=41:=by rw[<- hL1,List.length_append,List.length_singleton];omega
  have ocl1:=DK L1;refine SW.seq ?_
  (have fx:=(Zq o29 (Zq lO29 ocl1));refine SW.di ao Zm ?_;(repeat (first|refine RW.ro fx (h:=?_)|refine RW.skip (h:=?_)|refine RW.op fx (h:=?_)|refine RW.dV fx (h:=?_)|refine RW.br (h:=?_)|refine oQ rfl rfl (h:=?_)|(refine RW.bC (h:=?_);(first|refine aj.mk fx (hc:=cO3) (h:=?_)))));refine RW.nil ⟨bM (by kernel_rfl),ak.mk (h:=?_)⟩)
  obtain⟨v,hv⟩:∃ v,jv (l++[R.nz]) R.nz.dot=v:=⟨_,rfl⟩;obtain⟨w,hw⟩:∃ w,jv (l++[R.nz]++[O.nz]) O.nz.dot=w:=⟨_,rfl⟩;rw[hv] at hKR hhit;rw[hw] at hKO hhit;have q2:=sE hKR;have q3:=sE hKO;dsimp only[uf];refine SW.seq ?_
  by_cases hv2:v=2
  . have Mg:=hhit hv2
    subst hv2;have z1:(((2:Nat):Int) != 2)=false:=rfl;have z2:((w:Int) != 2)=true:=by
      have:(w:Int)≠2:=by omega
      simpa using this
    refine SW.g1 ao Zm (Zq dR (Zq lR2 (Zq q2 (Zq z1 (Zq dO (Zq lO2 (Zq q3 z2))))))) bY ?_;refine SW.ret ?_;exact End.mk [] (h4:=rfl)
  . have z1:((v:Int) != 2)=true:=by
      have:(v:Int)≠2:=by omega
      simpa using this
    refine SW.g1 ao Zm (Zq dR (Zq lR2 (Zq q2 z1))) bY ?_;refine SW.ret ?_;exact End.mk [] (h4:=rfl)
end Go.Proofs.YtaelhkkjgfobhaaGreat
namespace Go.Proofs.YtaelhkkjgfobhaaGreat
open Go.Sl Go.Proofs
set_option maxRecDepth 100000 in
theorem Nh {d:Nat}{ds:List DV}(h:Fit Tryz.prog (d+2) 87 ds):∃ x0 x1:Nat,x0<256/\x1<256/\ds=[.int .u8 (x0:Int),.int .u8 (x1:Int)]:=by
 rw[Fit,show Tryz.prog.underlying 87=some (.array 2 y6) from by kernel_rfl] at h;dsimp only at h;obtain⟨hl,hi⟩:=h;rw[show Tryz.prog.cellsOf 87=2 from by kernel_rfl] at hl;rw[show Tryz.prog.cellsOf y6=1 from by kernel_rfl] at hi;obtain⟨a,ha,e0⟩:=qQ (P:= Tryz.prog) Tryz.underlying5 (hi 0 (by omega));obtain⟨b,hb,e1⟩:=qQ (P:= Tryz.prog) Tryz.underlying5 (hi 1 (by omega));refine⟨a,b,ha,hb,?_⟩
 match ds,hl with
 | [x,y],_=>
  simp at e0 e1;rw[e0,e1]
theorem Ni (a b:DV):kB Tryz.prog 87 [a,b]= .agg [.d a,.d b]:=by rw[yC (n:=2) (by kernel_rfl)];rfl
set_option maxRecDepth 100000 in
theorem uA:∀ nu,mB Tryz.prog 7 Tryz.f11.params.toList nu->(∀ ds,ds∈nu->ew reachBytes ds)->SB Tryz.prog 11 (nL Tryz.prog Tryz.f11.params.toList nu) [] 0 0 λ r F=>r=bl true:=by
 intro nu h hs;have hp: Tryz.f11.params.toList=[jN,La,87]:=by kernel_rfl
 rw[hp] at h ⊢;obtain⟨x0,x1,x2,rfl,h0,h1,h2⟩:=DH h;obtain⟨y,l,rfl,hl,ho,hw⟩:=yE (d:=1) h0 (hs _ (by simp));obtain⟨n,_,rfl⟩:=yU (P:= Tryz.prog) (d:=6) Tryz.underlying3 h1;obtain⟨a,b,ha,hb,rfl⟩:=Nh (d:=5) h2;simp only[nL,DF,DI,Ni];exact SB.mono (SB.args (Cz l n a b ha hb (λ o h=>⟨(ho o h).2.2.2.1,(ho o h).1,(ho o h).2.1,(ho o h).2.2.2.2,(ho o h).2.2.1⟩) (by omega)) rfl (λ p μ M vs hv=>hw p μ M _ _ (λ _ h=>h) vs hv)) λ r F h=>h
open Go.ChangeShapes Go.WideShapes Go.ChangeAt Go.RowKit in
set_option maxRecDepth 100000 in
theorem tN (os:Os)(started:os.Started)(H:Type)(enc:TypeId×Value->H):
  ReturnsInHanded {} Tryz.checked os 11 .any (Rows.verdictLateSpec.pre6 enc Tryz.prog Tryz.f11 Rows.verdictLateRow.domain false) (Rows.verdictLateSpec.post enc Tryz.prog Tryz.f11 false true false false):=by
 refine returnsInHanded_of_change_sized (C:= Tryz.checked) own started (by kernel_rfl) Tryz.func11
  (ChangeSpec.witness6 (enc:=enc) (C:= Tryz.checked) false ⟨#[],#[.slice none 0 0,.int .i64 0,.agg #[.int .u8 0,.int .u8 0]],[]⟩ 8 (by kernel_rfl) (by kernel_rfl) (by kernel_rfl) (by kernel_rfl)) ?_
 intro W base args ds gs before hval hW hcnd hsz _;refine sZ (f:=11) (fn:= Tryz.f11) (spec:=Rows.verdictLateSpec) (tb:=BS) 7 (by kernel_rfl) (by kernel_rfl) rfl (by kernel_rfl) rfl (λ ds hl=> ?_) reachBytes (λ nu hf hs=> ?_) W base args ds gs before hval hW (qZ _) (λ n hn=>by simpa using List.all_eq_true.1 hsz n (iB hn))
 .rw[show Tryz.f11.params.toList.length=3 from by kernel_rfl] at hl
  match ds,hl with
  | [d0,d1,d2],_=>exact⟨rfl,rfl,rfl⟩
 .exact uA nu hf hs
theorem verdictLate_holds:Rows.VerdictLateSaid:=
 OpenClaim.holds_of_wide 11 Tryz.f11 rfl rfl rfl rfl rfl rfl rfl ⟨rfl,rfl,rfl,rfl,rfl⟩ rfl rfl rfl rfl rfl (by kernel_rfl) Tryz.func11 (by kernel_rfl)
  (of_decide_eq_true (by kernel_rfl)) (by unfold Func.isWrapper;first|(rw[if_pos (by decide +kernel)];kernel_rfl)|(rw[if_neg (by decide +kernel)];exact⟨rfl,rfl⟩))
  (λ os started H enc _=>tN os started H enc)
end Go.Proofs.YtaelhkkjgfobhaaGreat
