/-
 Revoke: rows of dots that grow, one by one.
-/
import Derived.Test.YtaelhkkjgfobhaaGreatUO
set_option linter.unusedSectionVars false
set_option linter.unusedVariables false
set_option linter.unusedSimpArgs false
namespace Go.Proofs.YtaelhkkjgfobhaaGreat
open Go.Sl Go.Proofs
section
attribute [local irreducible] SW RW aJ SC ai an
structure Bf where
 l:List Dt
 rn:Nat
theorem IZ (d:Dt):SB Tryz.prog revoke_Index_Threats_1.f [.agg d.cells] [] 0 2 λ r F=>r= .agg d.cells/\F=[]:=by
 refine revoke_Index_Threats_1.enter (by simp [SV.ay,SV.ok]) rfl (by simp) ?_;dsimp only [revoke_Index_Threats_1.s,Co.J,Co.F,Co.b8,Co.aB,Co.K,Co.x,Co.W,Co.S];have s1:cG [SV.d (.int .u8 0),.d (.int .u32 0)] 0 d.cells=d.cells:=rfl;(repeat (first | refine SW.seq ?_ | refine SW.block ?_ | refine SW.g0 [0,1,2] Zm s1 ?_ | refine SW.skip ?_ | refine SW.exit ?_ | refine SW.ret ?_ | refine SW.aj rfl ?_ | refine SW.au rfl ?_));exact End.mk [] (h4:=⟨rfl,rfl⟩)
theorem I1 (d:Dt)(k:Nat):aJ Tryz.prog revoke_Index_Threats_1.f [.agg d.cells] [] k 2 (.agg d.cells) []:=by
 have:=SB.new (IZ d) k
 simpa [SV.aQ,SV.aA,Dt.ax,Hp.aA] using this
def dX (y bx bf:Nat)(ca cb:Code)(s:Bf):Hp:=
 [(y,.oU 17 [5,3] [.ptr bx 0,.ptr bf 0] [8] ca cb .ready none),(bx,.box 31 [.gs s.rn s.l.length]),(bf,.box 123 [.fn (.func revoke_Index_Threats_1.f) [] []]),(s.rn,.arr 37 2 s.l.length ((s.l.flatMap Dt.ds).map .d))]
def Ll (y bx bf:Nat)(s:Bf)(j:Nat):Prop:=(s.rn≠y/\s.rn≠bx/\s.rn≠bf)/\s.l.length+j<=100000000000
def Mc (s:Bf)(x:Dt)(k:Nat):Bf:=⟨s.l++[x],k+3⟩
set_option maxHeartbeats 4000000 in
theorem JZ {y bx bf:Nat}(h1:y≠bx)(h2:y≠bf)(h3:bx≠bf){ca cb:Code}
    (hca:cK Tryz.prog 17 ca=some (.e_ [⟨some 6,.alloc 37 [.d (.int .u8 0),.d (.int .u32 0)],none⟩,⟨none,.store 2 (.t 6) (.t 8),none⟩] (oe 2) false))
    (hcb:cK Tryz.prog 17 cb=some (.block 1 (.e_ [⟨some 9,.load none (.t 5),none⟩,⟨some 10,.load none (.t 3),none⟩,⟨some 11,.load (some 2) (.t 6),none⟩,⟨some 12,.call (.t 10) [(.t 11)],none⟩,⟨some 13,.qf 37 2 1 [.d (.int .u8 0),.d (.int .u32 0)] [(0,2,.t 12)],none⟩,⟨some 14,.app 37 2 8 (.t 9) (.t 13),none⟩,⟨none,.store 1 (.t 5) (.t 14),none⟩] [0,0,0,6,14,31,63] true))):
    Gj Tryz.prog y (λ x:Dt=> .agg x.cells) 4 (dX y bx bf ca cb) Mc (Ll y bx bf):=by
  have f1:=b_ h1;have f2:=b_ h2;have f3:=b_ h3;refine ⟨λ s=>by simp [dX,aa],λ s j hinv x hx=> ?_,λ s j hinv=> ?_,λ s x k j hinv hok=> ?_⟩;rotate_left
  . obtain ⟨⟨a1,a2,a3⟩,_⟩:=hinv
    simp [dX,Hp.ok,Ob.ok,SV.ay,SV.ok,SV.bg,aa,f1,f2,f3,b_ a1,b_ a2,b_ a3]
  rotate_left
  . obtain ⟨⟨a1,a2,a3⟩,_⟩:=hinv
    have g1:=b_ a1;have g2:=b_ a2;have g3:=b_ a3;simp only [dX,List.mem_cons,List.not_mem_nil,or_false] at hx;rcases hx with rfl | rfl | rfl | rfl <;> simp [dX,aa,f1,f2,f3,g1,g2,g3]
  . obtain ⟨l,rn⟩:=s
    obtain ⟨⟨a1,a2,a3⟩,hlen⟩:=hinv;dsimp only at a1 a2 a3 hlen;have g1:=b_ a1;have g2:=b_ a2;have g3:=b_ a3;simp only [dX,Hp.ok,List.all_cons,List.all_nil,Ob.ok,SV.ay,SV.ok,SV.bg,Bool.and_true,Bool.and_eq_true,decide_eq_true_eq] at hok;obtain ⟨⟨k1,_⟩,⟨k2,_⟩,k3,k4⟩:=hok;have q1:=b_ (show k≠y by omega);have q2:=b_ (show k≠bx by omega);have q3:=b_ (show k≠bf by omega);have q4:=b_ (show k≠rn by omega);have w0:=b_ (show k+3≠k by omega);have w1:=b_ (show k+3≠y by omega);have w2:=b_ (show k+3≠bx by omega);have w3:=b_ (show k+3≠bf by omega);have w4:=b_ (show k+3≠rn by omega);have ea:k+1+2=k+3:=rfl;have hF :∀ n,lk (dX y bx bf ca cb ⟨l++[x],k+3⟩) n≠none->lk (dX y bx bf ca cb ⟨l,rn⟩) n≠none\/(k<=n/\n<k+4):=λ n hn=>by
      by_cases e1:n=y
      . exact .inl (by simp [dX,aa,e1])
      . by_cases e2:n=bx
        . exact .inl (by simp [dX,aa,e2,f1])
        . by_cases e3:n=bf
          . exact .inl (by simp [dX,aa,e3,f2,f3])
          . refine .inr ?_
            have:n=k+3:=Classical.byContradiction λ hne=>hn (by simp [dX,aa,bD,e1,e2,e3,hne])
            omega
    refine ⟨?_,⟨⟨by show k+3≠y;omega,by show k+3≠bx;omega,by show k+3≠bf;omega⟩,by show (l++[x]).length+j<=_;rw [List.length_append];show l.length+1+j<=_;omega⟩,?_,hF⟩
    . unfold Mu
      refine D0.here (λ n=>n == y || n == bx || n == bf || n == rn) (D0.uc (cs:=[.ptr bx 0,.ptr bf 0]) (H:=[(bx,.box 31 [.gs rn l.length]),(bf,.box 123 [.fn (.func revoke_Index_Threats_1.f) [] []]),(rn,.arr 37 2 l.length ((l.flatMap Dt.ds).map .d))]) hca hcb rfl rfl rfl (by simp) k1 (by simp [aa,bD,f1,f2,g1]) (by simp [SV.ay,SV.ok,Dt.aq]) (by simp [Hp.ok,Ob.ok,SV.ay,SV.ok,SV.bg];omega) (by simp [SV.ay,SV.ok];omega) ?_) ?_ (by simp [SV.ay,SV.ok,Dt.aq]) (by simp [dX,Hp.ok,Ob.ok,SV.ay,SV.ok,SV.bg]) ?_
      . skip
        show Go.Sl.SW _ _ _ _ ⟨[(8,.agg x.cells),(5,.ptr bx 0),(3,.ptr bf 0)],_,_⟩ _;refine SW.g0 [3,5,6,8] Zm (Zq f1 (Zq f2 (Zq f3 (Zq g1 (Zq g2 (Zq g3 (Zq q1 (Zq q2 (Zq q3 q4))))))))) ?_;refine ⟨rfl,SW.block ?_⟩;have hcc:=λ k=>I1 x k
        refine SW.gK [3,5,6,8] Zm (Zq f1 (Zq f2 (Zq f3 (Zq g1 (Zq g2 (Zq g3 (Zq q1 (Zq q2 (Zq q3 (Zq q4 (Zq w0 (Zq w1 (Zq w2 (Zq w3 (Zq w4 ea))))))))))))))) (Zq f1 (Zq f2 (Zq f3 (Zq g1 (Zq g2 (Zq g3 (Zq q1 (Zq q2 (Zq q3 (Zq q4 (Zq w0 (Zq w1 (Zq w2 (Zq w3 w4)))))))))))))) (Zq hcc True.intro) ?_;have e2:((l++[x]).flatMap Dt.ds).map SV.d=(List.flatMap Dt.ds l).map SV.d++x.ds.map SV.d:=by simp
        refine ⟨none,true,[(bx,.box 31 [.gs (k+3) (l++[x]).length]),(bf,.box 123 [.fn (.func revoke_Index_Threats_1.f) [] []]),(k+3,.arr 37 2 (l++[x]).length (((l++[x]).flatMap Dt.ds).map .d))],⟨rfl,rfl⟩,?_,?_,by simp,⟨rfl,rfl⟩⟩
        . refine HSub.cons ?_ (HSub.cons ?_ (HSub.cons ?_ (HSub.nil _)))
          . simp [aa,f1,f2,f3,g1,g2,g3,q1,q2,q3,q4,w0,w1,w2,w3,w4,cG]
          . simp [aa,f1,f2,f3,g1,g2,g3,q1,q2,q3,q4,w0,w1,w2,w3,w4,cG]
          . rw [e2];simp [aa,Dt.oB]
        . simp [Hp.ok,Ob.ok,SV.ay,SV.ok,SV.bg,-List.flatMap_append,-List.map_append];omega
      . intro n hn
        simp only [Bool.or_eq_true,beq_iff_eq] at hn;rcases hn with ((rfl | rfl) | rfl) | rfl <;> simp [dX,aa,f1,f2,f3,g1,g2,g3]
      . rintro r F' ⟨rfl,rfl⟩ _ _
        refine ⟨rfl,?_⟩;simp [Mc,dX,Hp.ok,Ob.ok,SV.ay,SV.ok,SV.bg,-List.flatMap_append,-List.map_append]
    . simp [Mc,dX,Hp.ok,Ob.ok,SV.ay,SV.ok,SV.bg,-List.flatMap_append,-List.map_append]
      omega
theorem O2 {s0 s:Bf}{xs:List Dt}(h:lK (Nl Mc) s0 xs s):s.l=s0.l++xs:=by
 induction h with
 | nil=>simp
 | snoc _ h ih=>
  obtain ⟨k,rfl⟩:=h;show _++[_]=_;rw [ih];simp
end
section
attribute [local irreducible] SW RW aJ SC ai an iN
theorem Gl (k:Nat):aJ Tryz.prog dot_Sort.f [.d .aN] [] k 0 (bq (Dt.set [])) []:=by
 have:=um [] (by simp) k;unfold aJ at this ⊢;refine SC.args (λ p μ M vs h=> ?_) this;obtain ⟨u,us,e,h1,h2⟩:=aX.aG.1 h;exact aX.aG.2 ⟨u,us,e,o9 _ _ _ _ h1,h2⟩
theorem Gm (L:List Dt)(hl:L.length<1000000000)(k:Nat):aJ Tryz.prog dot_Sort.f [dn L] [] k 0 (bq (Dt.set L)) []:=by
 cases L with
 | nil=>exact Gl k
 | cons d L=>exact um (d::L) hl k
theorem rQ (X:Ix)(hX:X.small)(o:ag):(X.dh o).length<=1000000:=by
 unfold Ix.dh;rw [List.length_flatMap];have hl:=hX.ch o.dot;have key:∀ l:List Dt,(l.map λ c=>((X.rj c).filter λ t=> !o.before (X.op t)).length).sum<=l.length*1000:=λ l=>by
  induction l with
  | nil=>simp
  | cons c l ih=>
   rw [List.map_cons,List.sum_cons,List.length_cons,Nat.add_mul,Nat.one_mul];have h1:=List.length_filter_le (λ t=> !o.before (X.op t)) (X.rj c);have h2:=hX.rv c;omega
 exact Nat.le_trans (key _) (Nat.le_trans (Nat.mul_le_mul_right 1000 hl) (by decide))
theorem Bg {q:Nat->Bool}{A B:Hp}(h1:A.ok q=true)(h2:B.ok q=true):(A++B:Hp).ok q=true:=by
 unfold Hp.ok at*;rw [List.all_append,h1,h2];rfl
abbrev yI (X:Ix)(o:ag):Hp:=TG X o 4 5
theorem nX (X:Ix)(o:ag){k:Nat}(h:6<=k):(yI X o).ok (λ n=>decide (n<k))=true:=
 ak (by simp;omega) (by simp [Ob.ok,SV.ay,SV.ok];omega) (ak (by simp;omega) (by simp [Ob.ok,ag.aq]) (X.tT (by omega)))
set_option maxHeartbeats 4000000 in
theorem Gn (X:Ix)(hX:X.small)(o:ag):SB Tryz.prog revoke_sorted_api_Dot.f [.fn (.func revoke_Index_threats_1.f) [] [.ptr 4 0,.ptr 5 0],.fn (.func revoke_Index_Threats_1.f) [] []] (yI X o) 6 (4+iN 4)
  λ r F=>r=bq (Dt.set (X.dh o))/\F=yI X o:=by
 have hlen:=rQ X hX o;refine revoke_sorted_api_Dot.enter (by simp [SV.ay,SV.ok]) (nX X o (Nat.le_refl 6)) (by simp) ?_;dsimp only [revoke_sorted_api_Dot.s,Co.M,Co.J,Co.F,Co.b8,Co.aB,Co.T,Co.K,Co.P,Co.x,Co.W,Co.S];refine SW.seq (SW.g0 [0,1,3,4,5,6,7,8] Zm af ?_);refine SW.seq (SW.g0 [0,1,3,4,5,6,7,8] Zm af ?_);refine SW.uZ 7 31 37 2 (by rfl) ?_;refine SW.seq (SW.seq (SW.g0 [0,1,3,4,5,6,7,8] Zm af ?_));refine SW.block (SW.qZ (nk:=iN 4) [5,3] [.ptr 7 0,.ptr 6 0] rfl ⟨rfl,rfl,trivial⟩ λ ca cb hca hcb=> ?_)
 let s0:Bf:=⟨[],8⟩
 have hy:=JZ (y:=9) (bx:=7) (bf:=6) (by decide) (by decide) (by decide) hca hcb;have hF0:(dX 9 7 6 ca cb s0).ok (λ n=>decide (n<10))=true:=by simp [dX,s0,Hp.ok,Ob.ok,SV.ay,SV.ok]
 have hO:oG (TG X o 4 5) (dX 9 7 6 ca cb) s0 10:=by
  refine ⟨by simp,λ n hn=> ?_,λ n hn=> ?_,nX X o (by omega),hF0⟩
  .simp only [TG,List.map_cons,List.map_nil,List.mem_cons,List.not_mem_nil,or_false] at hn;omega
  .simp only [TG,List.map_cons,List.map_nil,List.mem_cons,List.not_mem_nil,or_false] at hn
   rcases hn with rfl | rfl | rfl | rfl | rfl | rfl <;> simp [dX,s0,aa,bD]
 have h0:TI X o (dX 9 7 6 ca cb) Mc (Ll 9 7 6) s0 10 4 5 10 (X.dh o) s0 10:=⟨⟨[],.nil,rfl⟩,⟨⟨by decide,by decide,by decide⟩,by show 0+_<=_;omega⟩,hO,Nat.le_refl _,by decide,λ n hn=> .inl hn⟩;have hsb:=Ck (y:=9) (bx:=4) (bo:=5) (k:=10) X hX o s0 hy h0;have hsubF:HSub (TG X o 4 5++dX 9 7 6 ca cb s0) ((9,.oU 17 [5,3] [.ptr 7 0,.ptr 6 0] [8] ca cb .ready none)::(7,.box 31 [.gs 8 0])::(8,.arr 37 2 0 [])::(7,.box 31 [.d .aN])::(6,.box 123 [.fn (.func revoke_Index_Threats_1.f) [] []])::yI X o):=by
  intro n ob hn
  match n with
  | 0 | 1 | 2 | 3 | 4 | 5 | 6 | 7 | 8 | 9=>simpa [TG,dX,s0,aa] using hn
  | n+10=>simp [TG,dX,s0,aa,bD] at hn
 have hsc:=(hsb.here (λ n=>decide (n<10)) (λ n hn=> ?_) (by simp [SV.ay,SV.ok]) (Bg (nX X o (by omega)) hF0) ?_).frame hsubF
 .refine hsc.mono ?_
  rintro r F' ⟨F1,⟨rfl,s',hTI,rfl⟩,rfl⟩;obtain ⟨xs,hon,hxs⟩:=hTI.h1;rw [List.append_nil] at hxs;have hl':=O2 hon;obtain ⟨L,rn⟩:=s';have hL:L=X.dh o:=by rw [hxs];simpa [s0] using hl'
  obtain ⟨⟨b1,b2,b3⟩,_⟩:=hTI.h2;dsimp only at b1 b2 b3;have hno:∀ n,n∈(TG X o 4 5).map (·.1)->n≠rn:=λ n hn e=>by
   have:=hTI.own.no n hn;rw [e] at this;simp [dX,aa,b1,b2,b3] at this
  have b4:=hno 4 (by simp);have b5:=hno 5 (by simp);have c0:=hno 0 (by simp);have c1:=hno 1 (by simp);have c2:=hno 2 (by simp);have c3:=hno 3 (by simp);rw [<- hL];have hlk:=h_ (ro:=false) (F':=TG X o 4 5++dX 9 7 6 ca cb ⟨L,rn⟩) hsubF (λ h=>by cases h);generalize bR false _ _ _=G at hlk;have hG:∀ n ob,lk (TG X o 4 5++dX 9 7 6 ca cb ⟨L,rn⟩) n=some ob->lk G n=some ob:=λ n ob h=>by
   rw [hlk,eM (.inr (by rw [h];simp)),h]
  refine ⟨none,hG 9 _ (by simp [TG,dX,aa,lV]),?_⟩;have hrn:rn<10+iN 4:=by
   have:=(Hp.eF hTI.own.okF (show lk (dX 9 7 6 ca cb ⟨L,rn⟩) rn=some (.arr 37 2 L.length ((L.flatMap Dt.ds).map .d)) by simp [dX,aa,b1,b2,b3])).1
   simpa using this
  refine SW.weak (λ n=>if n=8 then rn else n) (st1:=⟨[(5,.ptr 7 0)],(7,.box 31 [.gs 8 L.length])::(8,.arr 37 2 L.length ((L.flatMap Dt.ds).map .d))::yI X o,10⟩) ?_ ?_
  .have q7:=hG 7 (.box 31 [.gs rn L.length]) (by simp [TG,dX,aa])
   have q8:=hG rn (.arr 37 2 L.length ((L.flatMap Dt.ds).map .d)) (by simp [TG,dX,aa,b1,b2,b3,b4.symm,b5.symm,c0.symm,c1.symm,c2.symm,c3.symm]);have q4:=hG 4 (.box 27 [.ptr 0 0]) (by simp [TG,aa]);have q5:=hG 5 (.box 43 o.cells) (by simp [TG,aa]);have q0:=hG 0 (.box 110 [.any,.mp 1,.mp 2,.mp 3]) (by simp [TG,aa]);have q1:=hG 1 (.map (ah Dt.cells ov X.ops) X.co) (by simp [TG,aa]);have q2:=hG 2 (.map (ah Dt.cells dn X.ch) X.cc) (by simp [TG,aa]);have q3:=hG 3 (.map (ah Dt.cells dn X.kG) X.cf) (by simp [TG,aa]);refine ⟨by show 6<=10;omega,λ n hn=>if_neg (by omega),?_,?_,?_⟩
   .simp [aL,List.lookup,SV.aA,SV.ok]
   .simp [uK,dg,Ob.aA,SV.aQ,SV.aA,SV.eE,SV.bg,Ob.ok,SV.ay,SV.ok,q7,q8,q4,q5,q0,q1,q2,q3,b1,ag.ax,ag.aq,bA,a_,dA,dw]
   .intro a ha b hb e
    simp only [yI,TG,List.map_cons,List.map_nil,List.mem_cons,List.not_mem_nil,or_false] at ha hb;rcases ha with rfl | rfl | rfl | rfl | rfl | rfl | rfl | rfl <;> rcases hb with rfl | rfl | rfl | rfl | rfl | rfl | rfl | rfl <;> simp at e <;> first | rfl | omega
  .refine SW.rA 8 (L.flatMap Dt.ds) rfl rfl ?_
   simp only [k_,SV.iB,List.map_cons,List.map_nil,if_true,if_false,reduceIte,cE,Nat.reduceEqDiff,AP,yI,TG,Ix.h0,Ob.iB,SV.jS];have e0:∀ m:MM Dt ag,(ah Dt.cells ov m).map (λ e=>(e.1,e.2.1,e.2.2.iB 8 L.length (L.flatMap Dt.ds)))=ah Dt.cells ov m:=λ m=>s7 (q:=λ _=>false) rfl (a_ _ _)
   have e1:∀ m:MM Dt (List Dt),(ah Dt.cells dn m).map (λ e=>(e.1,e.2.1,e.2.2.iB 8 L.length (L.flatMap Dt.ds)))=ah Dt.cells dn m:=λ m=>s7 (q:=λ _=>false) rfl (dw _ _)
   have e2:SV.jS 8 L.length (L.flatMap Dt.ds) o.cells=o.cells:=SV.lH (q:=λ _=>false) rfl _ (ag.aq _ _);simp only [e0,e1,e2];have hs:=um L (by rw [hL];omega);refine SW.seq (SW.g1 [0,1,3,4,5,6,7,8] Zm af hs ?_);refine SW.weak id (st1:=⟨[(4,bq (Dt.set L))],yI X o,10+iN 4⟩) (aI.same (by show 6<=10+iN 4;omega) (by simp [aL,List.lookup,SV.aA,SV.ok]) (nX X o (by show 6<=10+iN 4;omega)) (λ y hy=> ?_)) (SW.ret ?_)
   .simp only [yI,TG,Ix.h0,List.mem_cons,List.not_mem_nil,or_false] at hy
    rcases hy with rfl | rfl | rfl | rfl | rfl | rfl <;> rfl
   exact End.mk (yI X o) (h4:=⟨rfl,rfl⟩) (h6:=nX X o (by omega)) (h7:=by show 6+(4+iN 4)<=10+iN 4;omega)
 .match n,hn with
  | 0,_ | 1,_ | 2,_ | 3,_ | 4,_ | 5,_ | 6,_ | 7,_ | 8,_ | 9,_=>simp [TG,dX,s0,aa]
  | n +10,h=>
    have:n+10<10:=by simpa using h
    omega
 .rintro r F' _ h1 h2
  refine ⟨SV.eW (λ n hn=> ?_) _ h1,Hp.dH (λ n hn=> ?_) h2⟩ <;> (simp at hn ⊢;omega)
end
section
attribute [local irreducible] SW RW aJ SC ai an iN
def gT (X:Ix)(d:Dt):SV:=if MM.has X.ops d then .eu [bq (Dt.set (X.dh (X.op d))),i64 0] else .eu [.d .aN,i64 7]
theorem kY {X:Ix}{d:Dt}(hh:MM.has X.ops d=true):MM.get X.ops d=some (X.op d):=by
 obtain ⟨o,ho⟩:=Option.isSome_iff_exists.1 (show (MM.get X.ops d).isSome=true from hh);unfold Ix.op;rw [ho];rfl
theorem Ab (X:Ix)(hX:X.small)(d:Dt)(k:Nat):aJ Tryz.prog revoke_Index_Level.f [.ptr 0 0,.agg d.cells] X.h0 k 2 (jd X d) X.h0:=by
 have:=SB.nM [0,1,2,3] (Dm X hX d) (by decide) X.Nj k;rw [show X.h0.aA (ff [0,1,2,3] k)=X.h0 by simp [Hp.aA,Ob.aA,SV.aQ,SV.aA,ff,bA,dA],show (jd X d).aA (ff [0,1,2,3] k)=jd X d by unfold jd;split <;> simp [SV.aQ,SV.aA]] at this
 simpa [SV.aQ,SV.aA,ff,Dt.ax] using this
theorem xD (X:Ix)(o:ag)(k:Nat):aJ Tryz.prog revoke_Index_threats.f [.ptr 0 0,.agg o.cells] X.h0 k 2 (.fn (.func revoke_Index_threats_1.f) [] [.ptr k 0,.ptr (k+1) 0]) ((k+1,.box 43 o.cells)::(k,.box 27 [.ptr 0 0])::X.h0):=by
 have:=SB.nM [0,1,2,3] (Be X o) (by decide) X.Nj k;have e0:ff [0,1,2,3] k 4=k:=by simp [ff]
 have e1:ff [0,1,2,3] k 5=k+1:=by simp [ff];omega
 simp [SV.aQ,SV.aA,e0,e1,ff,ag.ax,Hp.aA,Ob.aA,bA,dA] at this;rw [Nat.add_comm 1 k] at this;exact this
theorem Gp (X:Ix)(hX:X.small)(o:ag)(k:Nat):aJ Tryz.prog revoke_sorted_api_Dot.f [.fn (.func revoke_Index_threats_1.f) [] [.ptr 7 0,.ptr 8 0],.fn (.func revoke_Index_Threats_1.f) [] []] (TG X o 7 8) k (4+iN 4) (bq (Dt.set (X.dh o))) (TG X o 7 8):=by
 have:=SB.nM [0,1,2,3,7,8] (Gn X hX o) (by decide) (λ i hi=>by
  match i,hi with
  | 0,_ | 1,_ | 2,_ | 3,_ | 4,_ | 5,_=>simp [aa]) k
 simpa [SV.aQ,SV.aA,ff,ag.ax,Hp.aA,Ob.aA,bA,dA] using this
set_option maxHeartbeats 4000000 in
theorem I2 (X:Ix)(hX:X.small)(d:Dt):SB Tryz.prog revoke_Index_Threats.f [.ptr 0 0,.agg d.cells] X.h0 4 (9+iN 4) λ r F=>r=gT X d/\F=X.h0:=by
 refine revoke_Index_Threats.enter (by simp [SV.ay,SV.ok]) (X.tT (Nat.le_refl 4)) (by simp) ?_;dsimp only [revoke_Index_Threats.s,Co.M,Co.J,Co.F,Co.C,Co.Z,Co.bW,Co.T,Co.K,Co.E,Co.Q,Co.x,Co.Y,Co.D,Co.A,Co.S];have hl:=Ab X hX d;refine SW.seq (SW.g0 [0,1,3,4,5,7,15] Zm af ?_);refine SW.seq (SW.seq ?_);rcases hh:MM.has X.ops d with _ | _
 .have hlv:jd X d= .eu [i64 0,i64 7]:=by unfold jd;rw [hh];rfl
  rw [hlv] at hl;refine SW.g1 [0,1,3,4,5,7,15] Zm af hl ?_;refine SW.seq (SW.g0 [0,1,3,4,5,7,15] Zm af ?_);refine SW.aj rfl (SW.seq (SW.g0 [0,1,3,4,5,7,15] Zm af ?_));refine SW.weak id (st1:=⟨[(4,.d .aN),(5,i64 7)],X.h0,4+(9+iN 4)⟩) (aI.same (by show 4<=4+(9+iN 4);omega) (by simp [aL,List.lookup,SV.aA,SV.ok]) (X.tT (by show 4<=4+(9+iN 4);omega)) (λ y hy=> ?_)) (SW.ret ?_)
  .simp only [Ix.h0,List.mem_cons,List.not_mem_nil,or_false] at hy
   rcases hy with rfl | rfl | rfl | rfl <;> rfl
  exact End.mk X.h0 (h3:=λ _ _ h=>h) (h4:=⟨by simp [gT,hh,fc],rfl⟩) (h6:=X.tT (by omega)) (h7:=Nat.le_refl _)
 .have hlv:jd X d= .eu [.d (.int .i64 (((X.mD d).length:Int) - 1)),i64 0]:=by unfold jd;rw [hh];rfl
  rw [hlv] at hl;refine SW.g1 [0,1,3,4,5,7,15] Zm af hl ?_;refine SW.seq (SW.g0 [0,1,3,4,5,7,15] Zm af ?_);refine SW.au rfl (SW.skip (SW.seq ?_));obtain ⟨o,ho⟩:∃ o,(MM.get X.ops d).getD ag.zero=o:=⟨_,rfl⟩;have hto:X.op d=o:=ho;have hthr:aJ Tryz.prog revoke_Index_threats.f [.ptr 0 0,.agg o.cells] X.h0 7 2 (.fn (.func revoke_Index_threats_1.f) [] [.ptr 7 0,.ptr 8 0]) ((8,.box 43 o.cells)::(7,.box 27 [.ptr 0 0])::X.h0):=xD X o 7;have hs:=Gp X hX o;refine SW.g2 [0,1,3,4,5,7,15] Zm ho hthr hs ?_;refine SW.ret ?_;exact End.mk X.h0 (h3:=HSub.cons rfl (HSub.cons rfl (HSub.cons rfl (HSub.cons rfl (HSub.nil _))))) (h4:=⟨by unfold gT;rw [hh,hto];rfl,rfl⟩) (h6:=X.tT (by omega)) (h7:=by show 4+(9+iN 4)<=7+2+(4+iN 4);omega)
end
end Go.Proofs.YtaelhkkjgfobhaaGreat
namespace Go.Proofs.YtaelhkkjgfobhaaGreat
open Go.Sl Go.Proofs
section
attribute [local irreducible] SW RW aJ SC ai an iN
section
variable {σ:Type} {Fh:σ->Hp} {nx:σ->ag->Nat->σ} {inv:σ->Nat->Prop} {aP y z b5 b3 b2:Nat}
end
end
section
attribute [local irreducible] SW RW aJ SC ai an iN
def yU (aP:Nat):Nat:=2+1000*(4+iN (1+aP))
section
variable {σ:Type} {Fh:σ->Hp} {nx:σ->ag->Nat->σ} {inv:σ->Nat->Prop} {aP y k:Nat}
theorem Cp (q:Nat->Bool)(m:Nat)(a:Nat)(l:List Nat)(b:Nat)(h:q m=true):(Ob.iter (some m) a l b).ok q=true:=h
end
end
section
attribute [local irreducible] SW RW aJ SC ai an iN yU
end
end Go.Proofs.YtaelhkkjgfobhaaGreat
namespace Go.Proofs.YtaelhkkjgfobhaaGreat
open Go.Sl Go.Proofs
section
def q1:ag:=⟨⟨0,1⟩,aD.zero,1,1,⟨0,1⟩,0,⟨0,0⟩,0,0,0,0,⟨0,0⟩,⟨0,0⟩,0,0,0,.aN⟩
def q2:ag:=⟨⟨0,2⟩,iD 1,2,1,⟨0,1⟩,1,⟨0,1⟩,2,2,0,9,⟨0,0⟩,⟨0,0⟩,0,0,0,.aN⟩
def q3:ag:=⟨⟨0,3⟩,iD 2,3,2,⟨0,1⟩,3,⟨0,2⟩,0,0,0,0,⟨0,0⟩,⟨0,0⟩,0,1,0,.aN⟩
def q4:ag:=⟨⟨0,4⟩,iD 3,4,2,⟨0,1⟩,4,⟨0,2⟩,0,0,0,0,⟨0,3⟩,⟨0,0⟩,0,2,0,.aN⟩
def q5:ag:=⟨⟨1,1⟩,iD 3,4,1,⟨0,1⟩,2,⟨0,1⟩,0,0,0,0,⟨0,2⟩,⟨0,0⟩,0,0,0,.aN⟩
def p1:ag:=q1.nz
def p2:ag:=q2.nz
def p3:ag:=q3.nz
def p4:ag:=q4.nz
def p5:ag:=q5.nz
def bH:List ag:=[p1,p2,p3,p4,p5]
set_option maxRecDepth 100000 in
theorem Ow {P:Program}{env:List (Nat×SV)}{hp:Hp}{k d p q s v w:Nat}{r:List SI}{K:St->List (Bool×List Nat)->Prop}(a b c e g:ag){z:List SV}(hz:z=D2++(D2++(D2++(D2++D2))))
  (ha:env.lookup p=some (.agg a.cells)) (hb:env.lookup q=some (.agg b.cells)) (hc:env.lookup s=some (.agg c.cells)) (he:env.lookup v=some (.agg e.cells)) (hg:env.lookup w=some (.agg g.cells))
  (h:RW P r ⟨(d,ops [a,b,c,e,g])::env,hp,k⟩ λ st' ts=>K st' ((false,[])::ts)):RW P (⟨some d,.qf 43 29 5 z [(0,29,.t p),(29,29,.t q),(58,29,.t s),(87,29,.t v),(116,29,.t w)],none⟩::r) ⟨env,hp,k⟩ K:=by
 subst hz;refine RW.cons (e:=⟨ops [a,b,c,e,g],[],[],0,((29=29/\0+29<=145/\29=29/\29+29<=145/\29=29/\58+29<=145/\29=29/\87+29<=145/\29=29/\116+29<=145/\True))⟩) (λ dG=>⟨.iB::dG,fm (.inl rfl) ?_⟩) (by show 29=29/\0+29<=145/\29=29/\29+29<=145/\29=29/\58+29<=145/\29=29/\87+29<=145/\29=29/\116+29<=145/\True;decide) ?_
 .have h1:vT (λ t=>env.lookup t) [(0,29,X.t p),(29,29,X.t q),(58,29,X.t s),(87,29,X.t v),(116,29,X.t w)]=some [(0,29,.agg a.cells),(29,29,.agg b.cells),(58,29,.agg c.cells),(87,29,.agg e.cells),(116,29,.agg g.cells)]:=by
   simp only [vT,ev,ha,hb,hc,he,hg]
  have h2:mM (D2++(D2++(D2++(D2++D2)))) [(0,29,.agg a.cells),(29,29,.agg b.cells),(58,29,.agg c.cells),(87,29,.agg e.cells),(116,29,.agg g.cells)]=some (a.cells++(b.cells++(c.cells++(e.cells++g.cells))),((29=29/\0+29<=145/\29=29/\29+29<=145/\29=29/\58+29<=145/\29=29/\87+29<=145/\29=29/\116+29<=145/\True))):=rfl;have h3:fu (a.cells++(b.cells++(c.cells++(e.cells++g.cells))))=some ([a,b,c,e,g].flatMap ag.ds):=rfl;have h4:(a.cells++(b.cells++(c.cells++(e.cells++g.cells)))).all SV.dJ=true:=rfl;simp only [fM,dF,h1,h2,h3,h4,if_true,Bool.false_or];rfl
 .exact h
theorem RW.Gq {P:Program}{d:Nat}{z:List SV}{parts:List (Nat×Nat×X)}{r:List SI}{K:St->List (Bool×List Nat)->Prop}{env:List (Nat×SV)}{hp:Hp}{k:Nat}(cs:List SV){ps:List (Nat×Nat×SV)}{ob:Prop}(h1:vT (λ t=>env.lookup t) parts=some ps)(h2:mM z ps=some (cs,ob))(bz:ob)
  (h:Go.Sl.RW P r ⟨(d,.agg cs)::env,hp,k⟩ λ st' ts=>K st' ((true,[])::ts)):Go.Sl.RW P (⟨some d,.gl z parts,none⟩::r) ⟨env,hp,k⟩ K:=
 RW.EA (F:=[]) (F':=[]) (nk:=0) (ob:=ob) rfl rfl rfl (.inl rfl) (by simp only [fM,dF,h1,h2]) bz rfl h
section
attribute [local irreducible] SW RW aJ SC ai an iN yU
end
theorem J1:(bh bH).at_=[(0,⟨0,1⟩,hc1),(1,⟨0,2⟩,Hz)]:=by kernel_rfl
theorem J2:oI (bh bH).at_ (MM.get (bh bH).at_ ⟨0,1⟩) [hc1]:=by
 rw [J1];exact .root hc1 (by decide)
theorem Gr:oI (bh bH).at_ (MM.get (bh bH).at_ ⟨0,2⟩) [Hz,hc1]:=by
 rw [J1];exact .more Hz _ (by decide) (.root hc1 (by decide))
theorem Nn:kf bH p1=0:=by kernel_rfl
theorem No:kf bH p2=0:=by kernel_rfl
theorem Np:kf bH p3=0:=by kernel_rfl
theorem Nq:kf bH p4=0:=by kernel_rfl
theorem Nr:kf bH p5=0:=IG Gr (by kernel_rfl)
theorem Gs:∀ o,o∈bH->o.kind<256/\o.mW/\o.cl.length<=1048576:=λ o ho=>by
 simp only [bH,List.mem_cons,List.not_mem_nil,or_false] at ho;rcases ho with rfl | rfl | rfl | rfl | rfl
 all_goals exact ⟨by decide,Om rfl,by decide⟩
end
section
theorem vz (l:List Dt):(Dt.set l).Nodup:=(Dt.sorted_perm _).nodup_iff.2 (uk l).keys
section
variable {l:List ag} {S:Sh} (h:bS l S) (hl:l.length<=80)
include h
theorem bS.I3 {d:Dt}(hg:S.good d=true):∃ o,aW l d=some o/\kf l o=0/\S.op d=o/\o.dot=d/\d∈Dt.set (l.map (·.dot)):=by
 rw [h.good] at hg;cases hf:aW l d with
 | none=>rw [hf] at hg;cases hg
 | some o=>
  rw [hf] at hg;have hd:=fF hf;refine ⟨o,rfl,of_decide_eq_true hg,?_,hd,?_⟩
  .rw [h.base.op,bG hf]
  .rw [Dt.mem_set]
   exact List.mem_map.2 ⟨o,sU hf,hd⟩
theorem bS.Gt {d:Dt}:(d∈Dt.set (l.map (·.dot))/\S.good d=true)↔S.good d=true:=⟨λ h=>h.2,λ hg=>⟨(h.I3 hg).elim λ _ h=>h.2.2.2.2,hg⟩⟩
noncomputable abbrev bS.X (_:bS l S):Ix:=vR S (Dt.set (l.map (·.dot)))
theorem bS.Lm:Ld S (Dt.set (l.map (·.dot))) h.X:=Gd _ _
theorem bS.Gu (d:Dt):MM.has h.X.ops d=S.good d:=by
 unfold MM.has;rw [h.Lm.ops];simp only [h.Gt];cases S.good d <;> rfl
theorem bS.Ox {d:Dt}(hg:S.good d=true):h.X.op d=S.op d:=by
 unfold Ix.op;rw [h.Lm.ops,if_pos (h.Gt.2 hg)];rfl
theorem bS.Dr {d:Dt}(hg:S.good d=true):h.X.mD d=S.mD (S.op d):=by
 unfold Ix.mD;rw [h.Lm.ch,if_pos (h.Gt.2 hg)];rfl
theorem bS.J3 {d:Dt}(hg:S.good d=false):h.X.mD d=[]:=by
 unfold Ix.mD;rw [h.Lm.ch,if_neg (λ hh=>by rw [hg] at hh;cases hh.2)];rfl
theorem bS.Ns (c:Dt):h.X.rj c=(Dt.set (l.map (·.dot))).filter (S.rv c):=h.Lm.kG c
theorem bS.Cq (o:ag):(S.mD o).length<=9:=by
 unfold Sh.mD
 split
 .simp
 .obtain ⟨L,h1,h2⟩:=h.base.tR o.aM
  rw [List.length_map,ig h1];exact h2
include hl
theorem bS.j6:(Dt.set (l.map (·.dot))).length<=80:=by
 have:=(vz (l.map (·.dot))).length_le_of_subset (l₂:=l.map (·.dot)) λ d hd=>Dt.mem_set.1 hd
 simpa using Nat.le_trans this (by simpa using hl)
theorem bS.small:h.X.small:=by
 have hd:=h.j6 hl;refine ⟨λ d=> ?_,λ c=> ?_,?_,h.Lm.wo⟩
 .cases hg:S.good d with
  | false=>rw [h.J3 hg];simp
  | true=>rw [h.Dr hg];have:=h.Cq (S.op d);omega
 .rw [h.Ns]
  have:=List.length_filter_le (S.rv c) (Dt.set (l.map (·.dot)));omega
 .have:=h.Lm.wo.keys.length_le_of_subset (l₂:=Dt.set (l.map (·.dot))) λ d hd'=>by
   rw [<- MM.ia,h.Gu] at hd';exact (h.Gt.2 hd').1
  have e:(MM.keys h.X.ops).length=h.X.ops.length:=by simp [MM.keys]
  omega
omit hl
theorem bS.Nt {d:Dt}(hg:S.good d=true):h.X.dh (S.op d)=S.dh (Dt.set (l.map (·.dot))) (S.op d):=by
 obtain ⟨o,_,_,e1,e2,_⟩:=h.I3 hg;unfold Ix.dh Sh.dh;rw [e1,e2,h.Dr hg,e1]
 congr 1
 funext c
 rw [h.Ns];refine List.filter_congr λ t ht=> ?_
 have:S.good t=true:=by
  have:=(List.mem_filter.1 ht).2;unfold Sh.rv at this;rw [Bool.and_eq_true] at this;exact this.1
 rw [h.Ox this]
end
theorem Dt.I4 {a b:List Dt}(h:∀ v,v∈a↔v∈b):Dt.set a=Dt.set b:=Dt.fZ (Dt.fJ _) (Dt.fJ _) λ v=>by rw [Dt.mem_set,Dt.mem_set,h]
theorem J4:Dt.set (bH.map (·.dot))=[⟨0,1⟩,⟨0,2⟩,⟨0,3⟩,⟨0,4⟩,⟨1,1⟩]:=(Dt.Cd _).symm.trans (by kernel_rfl)
section
variable {S:Sh} (h:bS bH S)
include h
end
end
section
attribute [local irreducible] SW RW aJ SC ai an iN yU
theorem uq (S:Sh)(n:Nat):(lk S.j5 n).isSome=true↔n∈[10,7,8,9,2,0,1]:=by
 rw [Option.isSome_iff_ne_none];constructor
 .intro hn
  obtain ⟨ob,ho⟩:=Option.ne_none_iff_exists'.1 hn;have:=(List.mem_map (f:=λ x:Nat×Ob=>x.1)).2 ⟨(n,ob),kX ho,rfl⟩
  simpa using this
 .intro hn
  simp only [List.mem_cons,List.not_mem_nil,or_false] at hn;rcases hn with rfl | rfl | rfl | rfl | rfl | rfl | rfl <;> simp [aa]
theorem Gv (S:Sh)(X:Ix)(q:Nat->Bool)(h:∀ n,n∈[0,1,2,7,8,9,10,11,12,13,14]->q n=true):(hX S X).ok q=true:=by
 have a:=λ n hn=>h n hn
 refine ak (h 14 (by decide)) ?_ (ak (h 13 (by decide)) (dw _ _) (ak (h 12 (by decide)) (dw _ _) (ak (h 11 (by decide)) (a_ _ _) (ak (h 10 (by decide)) ?_ (ak (h 7 (by decide)) (a_ _ _) (ak (h 8 (by decide)) (bB _ _) (ak (h 9 (by decide)) (jX _ _) (ak (h 2 (by decide)) ?_ (ak (h 0 (by decide)) (iG _ _) (ak (h 1 (by decide)) (a_ _ _) rfl))))))))))
 .simp [Ob.ok,SV.ay,SV.ok,h 11,h 12,h 13]
 .simp [Ob.ok,SV.ay,SV.ok,h 2,h 7,h 8,h 9]
 .simp [Ob.ok,SV.ay,SV.ok,h 0,h 1]
theorem Cs (S:Sh)(q:Nat->Bool)(h:∀ n,n∈[0,1,2,7,8,9,10]->q n=true):S.j5.ok q=true:=by
 refine ak (h 10 (by decide)) ?_ (ak (h 7 (by decide)) (a_ _ _) (ak (h 8 (by decide)) (bB _ _) (ak (h 9 (by decide)) (jX _ _) (ak (h 2 (by decide)) ?_ (ak (h 0 (by decide)) (iG _ _) (ak (h 1 (by decide)) (a_ _ _) rfl))))))
 .simp [Ob.ok,SV.ay,SV.ok,h 2,h 7,h 8,h 9]
 .simp [Ob.ok,SV.ay,SV.ok,h 0,h 1]
theorem bS.Oy {l:List ag}{S:Sh}(h:bS l S)(hl:l.length<=80)(hs:lZ S):aJ Tryz.prog revoke_New.f [.ptr 10 0] S.j5 11 4 (.ptr 14 0) (hX S h.X):=by
 unfold aJ;refine (Ci S _ h.base.tR hs (by have:=h.j6 hl;omega) (h.Bb hl)).here (λ n=>(lk S.j5 n).isSome) (λ n hn=>Option.isSome_iff_ne_none.1 hn) (by simp [SV.ay,SV.ok,aa]) (Cs S _ λ n hn=>(uq S n).2 (by revert hn;simp;omega)) ?_;rintro r F' ⟨rfl,rfl⟩ _ _;refine ⟨by simp [SV.ok],Gv S _ _ λ n hn=> ?_⟩;rw [Bool.or_eq_true]
 by_cases j5:n∈[10,7,8,9,2,0,1]
 .exact .inl ((uq S n).2 j5)
 .refine .inr ?_
  simp at hn j5 ⊢;omega
section
variable {S:Sh} (h:bS bH S)
include h
end
end
section
attribute [local irreducible] SW RW aJ SC ai an iN yU
theorem e9:cG (Dt.mk 0 0).cells 1 [.d (.int .u32 9)]=(Dt.mk 0 9).cells:=rfl
theorem e1:cG (Dt.mk 0 0).cells 1 [.d (.int .u32 1)]=(Dt.mk 0 1).cells:=rfl
theorem e2:cG (Dt.mk 0 0).cells 1 [.d (.int .u32 2)]=(Dt.mk 0 2).cells:=rfl
theorem O3:cG (cG (Dt.mk 0 0).cells 0 [.d (.int .u8 1)]) 1 [.d (.int .u32 1)]=(Dt.mk 1 1).cells:=rfl
end
section
theorem Dt.yJ (l:List Dt):(Dt.set l).length<=l.length:=(vz l).length_le_of_subset λ d hd=>Dt.mem_set.1 hd
section
variable {l:List ag} {S:Sh} (h:bS l S) (hl:l.length<=80)
include h
theorem bS.hit {d t:Dt}(hd:S.good d=true)(ht:t∈S.dh (Dt.set (l.map (·.dot))) (S.op d)):S.good t=true/\(S.op t).kind=2/\(S.op t).at_∈S.mD (S.op d)/\(S.op d).before (S.op t)=false/\(S.mD (S.op t)).length<(S.mD (S.op d)).length/\2<=(S.mD (S.op d)).length/\(S.op t).aK=(S.op d).aK:=by
 obtain ⟨_,h1,h2,h3,h4⟩:=Sh.Cl.1 ht;obtain ⟨o,_,ho,e1,_,_⟩:=h.I3 hd;obtain ⟨r,_,hr,e2,_,_⟩:=h.I3 h1;have h3':=h3;rw [h.mD,e1,e2] at h3';rw [e2] at h2;obtain ⟨a1,a2,a3⟩:=Cn ho hr h2 h3';refine ⟨h1,by rw [e2];exact h2,h3,h4,?_,?_,by rw [e1,e2];exact a3⟩
 .rw [h.mD,h.mD,e1,e2];exact a1
 .rw [h.mD,e1];exact a2
include hl
theorem bS.rQ (o:ag):(Dt.set (h.X.dh o)).length<1000000000:=by
 have h1:=Dt.yJ (h.X.dh o);have h2:=Go.Proofs.YtaelhkkjgfobhaaGreat.rQ h.X (h.small hl) o;omega
end
end
section
theorem Ln {P:Program}{f:FuncId}{args:List SV}{F:Hp}{k nk:Nat}{Q:SV->Hp->Prop}(q:Nat->Bool)(h:SB P f args F k nk Q)(JM:∀ n,q n=true->lk F n≠none)(DZ:F.ok q=true)
  (hQ:∀ r F',Q r F'->r.ok (λ n=>q n || (decide (k<=n) && decide (n<k+nk)))=true/\F'.ok (λ n=>q n || (decide (k<=n) && decide (n<k+nk)))=true)
  (ρ:Nat->Nat) (k':Nat) (hinj:∀ n m,n<k->m<k->ρ n=ρ m->n=m) (hlt:∀ n,n<k->ρ n<k') (hnew:∀ i,i<nk->ρ (k+i)=k'+i):
  SC P f (SV.aQ ρ args) (F.aA ρ) k' nk λ r F'=>∃ r0 F0,Q r0 F0/\r=r0.aA ρ/\F'=F0.aA ρ:=by
 refine ⟨h.1,λ p μ M w vals hp hr hS=> ?_⟩;have hqP:∀ n,q n=true->p (ρ n):=λ n hn=>by
  obtain ⟨ob,ho⟩:=Option.ne_none_iff_exists'.1 (JM n hn);have hl:lk (F.aA ρ) (ρ n)=(lk F n).map (Ob.aA ρ):=AI h.2.2.1 (λ a b ha hb=>hinj a b (by simpa using ha) (by simpa using hb)) (by simpa using (Hp.eF h.2.2.1 ho).1);rw [ho] at hl;exact (hS.obs _ _ hl).1
 obtain ⟨h1,h2,h3⟩:=BM (Q:=λ r F'=>Q r F') h.2.1 h.2.2.1 ρ k' hinj hnew (p:=λ m=>p m\/∃ n,n<k/\ρ n=m) (λ n hn hh=>by
  rcases hh with hh | ⟨m,hm,rfl⟩
  .exact hp n hn hh
  .have:=hlt m hm;omega) (λ n hn=> .inr ⟨n,hn,rfl⟩) (hr.more (λ _ h=> .inl h) (λ _ _=>rfl) (Mem.le_refl _)) (hS.more λ _ h=> .inl h)
 refine (h.2.2.2 _ M w vals h1 h2).mono λ e w' hx=> ?_
 obtain ⟨r,F',bn,M',u,rfl,⟨r0,F0,hq0,rfl,rfl⟩,a,b,c⟩:=h3 e w' hx;obtain ⟨k1,k2⟩:=hQ r0 F0 hq0;have hq2:∀ n,(q n || (decide (k<=n) && decide (n<k+nk)))=true->(p (ρ n)\/(k'<=ρ n/\ρ n<k'+nk)):=λ n hn=>by
  simp only [Bool.or_eq_true,Bool.and_eq_true,decide_eq_true_eq] at hn;rcases hn with hn | hn
  .exact .inl (hqP n hn)
  .have:=hnew (n - k) (by omega)
   rw [show k+(n - k)=n by omega] at this;exact .inr (by omega)
 refine ⟨_,_,bn,M',u,rfl,⟨r0,F0,hq0,rfl,rfl⟩,Rp.back k1 hq2 (λ _ _=>rfl) (Rp.to (p:=λ _=>True) (ν:=λ n=>bn (ρ n)) k1 (λ _ _=>trivial) (λ _ _=>rfl) a.rep).rep,⟨b.mem,λ m ob hm=> ?_,b.inj⟩,c⟩;obtain ⟨_,b1,b2⟩:=b.obs m ob hm;obtain ⟨n,kC,hmem,rfl,rfl⟩:=tw hm;have hn:=List.all_eq_true.1 k2 _ hmem;simp only [Bool.and_eq_true] at hn;have b3:cB (λ _=>True) (λ n=>bn (ρ n)) M' w' (bn (ρ n)) kC:=cB.to hn.2 (λ _ _=>trivial) (λ _ _=>rfl) b1;exact ⟨hq2 n hn.1,cB.back hn.2 hq2 (λ _ _=>rfl) b3,b2⟩
theorem bS.Nu {l:List ag}{S:Sh}(h:bS l S)(hl:l.length<=80)(hs:lZ S)(p:Nat):aJ Tryz.prog revoke_New.f [.ptr (10+p) 0] (Hp.aA (· +p) S.j5) (11+p) 4 (.ptr (14+p) 0) (Hp.aA (· +p) (hX S h.X)):=by
 have:=Ln (λ n=>(lk S.j5 n).isSome) (Ci S _ h.base.tR hs (by have:=h.j6 hl;omega) (h.Bb hl)) (λ n hn=>Option.isSome_iff_ne_none.1 hn) (Cs S _ λ n hn=>(uq S n).2 (by revert hn;simp;omega)) (by
  rintro r F' ⟨rfl,rfl⟩;refine ⟨by simp [SV.ok],Gv S _ _ λ n hn=> ?_⟩;rw [Bool.or_eq_true]
  by_cases j5:n∈[10,7,8,9,2,0,1]
  .exact .inl ((uq S n).2 j5)
  .refine .inr ?_
   simp at hn j5 ⊢;omega) (· +p) (11+p) (λ n m _ _ e=>by have e:n+p=m+p:=e;omega) (λ n hn=>by show n+p<11+p;omega) (λ i _=>by show 11+i+p=11+p+i;omega)
 unfold aJ;refine SC.mono (show SC Tryz.prog revoke_New.f [.ptr (10+p) 0] (Hp.aA (· +p) S.j5) (11+p) 4 _ from this) ?_;rintro r F ⟨r0,F0,⟨rfl,rfl⟩,rfl,rfl⟩;exact ⟨rfl,rfl⟩
end
end Go.Proofs.YtaelhkkjgfobhaaGreat
namespace Go.Proofs.YtaelhkkjgfobhaaGreat
open Go.Sl Go.Proofs
section
attribute [local irreducible] SW RW aJ SC ai an
noncomputable def dY (l:List ag)(d:Dt):Bool:=match aW l d with
 | some o=>decide (kf l o=0)
 | none=>false
section
variable {l:List ag} (hl:l.length<=80) (hd:∀ x,x∈l->x.bp<256/\x.mW/\x.dot.wf)
include hl hd
noncomputable def Bh (l:List ag)(r o:ag):Bool:=decide (r.kind=2) && (decide (r.at_∈jZ l o) && !o.before r)
end
end
section
attribute [local irreducible] SW RW aJ SC ai an
theorem I5 (s:List Dt)(x:Dt):(s++[x]).length=s.length+ [x].length:=by simp
theorem Lo (s:List Dt)(x:Dt):List.map SV.d ((s++[x]).flatMap Dt.ds)=List.map SV.d (s.flatMap Dt.ds)++List.map SV.d ([x].flatMap Dt.ds):=by simp
noncomputable def Ac (l:List ag):List Dt:=(l.filter λ o=>dY l o.dot).map (·.dot)
noncomputable def ko (l:List ag):List Dt:=Dt.set (Ac l)
theorem jK {l:List ag}{d:Dt}:d∈ko l↔dY l d=true:=by
 unfold ko Ac;rw [Dt.mem_set,List.mem_map];constructor
 .rintro ⟨o,ho,rfl⟩
  exact (List.mem_filter.1 ho).2
 .intro h
  unfold dY at h;cases hf:aW l d with
  | none=>rw [hf] at h;cases h
  | some o=>
   have hd:=fF hf;refine ⟨o,List.mem_filter.2 ⟨sU hf,?_⟩,hd⟩;rw [hd];unfold dY;rw [hf] at h ⊢;exact h
section
variable {l:List ag} (hl:l.length<=80) (hd:∀ x,x∈l->x.bp<256/\x.mW/\x.dot.wf)
include hl hd
end
end
section
attribute [local irreducible] SW RW aJ SC ai an
noncomputable def yK (l:List ag)(d:Dt)(v:Dt):Bool:=Bh l (tS l v) (tS l d)
section
variable {l:List ag} (hl:l.length<=80) (hd:∀ x,x∈l->x.bp<256/\x.mW/\x.dot.wf)
include hl hd
end
end
end Go.Proofs.YtaelhkkjgfobhaaGreat
