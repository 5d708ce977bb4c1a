/-
 Who threatens, as a row of one's own.
-/
import Derived.Test.YtaelhkkjgfobhaaGreatT7
set_option linter.unusedSectionVars false
set_option linter.unusedVariables false
set_option linter.unusedSimpArgs false
namespace Go.Proofs.YtaelhkkjgfobhaaGreat
open Go.Sl Go.Proofs Go.Sort
attribute [local irreducible] SW RW aF SC ai ak jN
theorem Bu {L:jk}{c:Nat}(hwf:MM.wf L c)(hL:L.length<1000000000):
  SB Tryz.prog slices_SortedFunc_api_Dot.f [.fn (.func maps_Keys_dot_set_api_Dot_int_1.f) [] [.ptr 0 0],.fn (.func dot_Compare.f) [] []] (gX 0 1 L c) 2 1
   λ r F=>r= .gs 2 (Dt.sorted (MM.keys L)).length/\F=(2,s9 (Dt.sorted (MM.keys L)) 2)::gX 0 1 L c:=by
 refine slices_SortedFunc_api_Dot.enter (by simp[SV.ok,SV.au]) (pU _ _ _ _ _ rfl rfl) (by simp) ?_;dsimp only[slices_SortedFunc_api_Dot.s,Co.M,Co.J,Co.F,Co.P,Co.Q,Co.S];refine SW.seq (SW.g0 lj Zm af ?_);refine SW.seq (SW.xd ?_);(repeat (first|refine bq.op af (h:=?_)|refine bq.di af (h:=?_)|refine bq.skip (h:=?_)));refine bq.aW (vt hwf hL) (λ _ _ h=>h) (h:=?_);rintro v F' ⟨rfl,l,hl,rfl⟩;simp only[bU,dx,dy,gA,gR,bY,lk,List.lookup,Nat.reduceBEq,BEq.rfl,beq_self_eq_true,if_true,if_false,reduceIte,Nat.reduceEqDiff,Bool.false_eq_true,Option.isSome_some,Option.isSome_none,Nat.reduceAdd,gX];(repeat (first|refine bq.op af (h:=?_)|refine bq.di af (h:=?_)|refine bq.skip (h:=?_)));refine bq.nil ?_;have hlen:l.length=L.length:=by rw[hl.length_eq];simp[MM.keys]
 refine SW.seq (SW.xd ?_);(repeat (first|refine bq.op af (h:=?_)|refine bq.di af (h:=?_)|refine bq.skip (h:=?_)));rw[<- hlen];refine bq.oL af (oU 2 l (by omega) 3) (h:=?_);refine bq.nil ?_;refine SW.seq (SW.g0 lj Zm af ?_);have fq:(Dt.sorted l).length=l.length:=(Dt.sorted_perm l).length_eq;have hse:Dt.sorted l=Dt.sorted (MM.keys L):=Dt.jR ((Dt.sorted_perm l).trans hl) (Dt.gp l);rw[<- hse,<- fq];refine SW.ret ?_;exact End.mk ((2,s9 (Dt.sorted l) 2)::gX 0 1 L c) (h4:=⟨rfl,rfl⟩) (h6:=by simp[gX,Hp.ok,Ob.ok,SV.au,SV.ok,SV.aZ,bP])
theorem Bv {L:jk}{c:Nat}(hwf:MM.wf L c)(hL:L.length<1000000000)(k:Nat)(b m:Nat)(Ma:b≠m):
  aF Tryz.prog slices_SortedFunc_api_Dot.f [.fn (.func maps_Keys_dot_set_api_Dot_int_1.f) [] [.ptr b 0],.fn (.func dot_Compare.f) [] []] (gX b m L c) k 1 (.gs k (Dt.sorted (MM.keys L)).length) ((k,s9 (Dt.sorted (MM.keys L)) k)::gX b m L c):=by
 have h:=SB.nB [b,m] (Bu hwf hL) (by simp[Ma]) (λ i hi=>rK L c i (by simpa using hi)) k
 simpa[SV.aU,SV.aC,fz,gX,Hp.aC,Ob.aC,ff,SV.dN] using h
theorem Hg {L:jk}{c:Nat}(hwf:MM.wf L c)(hL:L.length<1000000000):SB Tryz.prog dot_set_list.f [.mp 0] [(0,.map (aq Dt.cells iv L) c)] 1 2 λ r F=>r= .gs 2 (Dt.sorted (MM.keys L)).length/\F=[(2,s9 (Dt.sorted (MM.keys L)) 2),(0,.map (aq Dt.cells iv L) c)]:=by
 refine dot_set_list.enter rfl (by simp[Hp.ok,Ob.ok,bP]) (by simp) ?_;dsimp only[dot_set_list.s,Co.M,Co.J,Co.F,Co.C,Co.P,Co.S];refine SW.seq (SW.g0 im Zm af ?_);refine SW.seq (SW.xd ?_);(repeat (first|refine bq.op af (h:=?_)|refine bq.di af (h:=?_)|refine bq.skip (h:=?_)));refine bq.oL af (Cc L c 0 1) (h:=?_);refine bq.oL af (Bv hwf hL 2 1 0 (by decide)) (h:=?_);(repeat (first|refine bq.op af (h:=?_)|refine bq.di af (h:=?_)|refine bq.skip (h:=?_)));refine bq.nil (SW.ret ?_);exact End.mk [(2,s9 (Dt.sorted (MM.keys L)) 2),(0,.map (aq Dt.cells iv L) c)] (h4:=⟨rfl,rfl⟩) (h6:=by simp[Hp.ok,Ob.ok,SV.au,SV.ok,bP,SV.aZ])
theorem Hh {L:jk}{c:Nat}(hwf:MM.wf L c)(hL:L.length<1000000000)(n k:Nat):aF Tryz.prog dot_set_list.f [.mp n] [(n,.map (aq Dt.cells iv L) c)] k 2 (.gs (k+1) (Dt.sorted (MM.keys L)).length) [(k+1,s9 (Dt.sorted (MM.keys L)) 2),(n,.map (aq Dt.cells iv L) c)]:=by
 have h:=SB.nB [n] (Hg hwf hL) (by simp) (λ i hi=>by cases i with|zero=>simp[aa]|succ i=>simp at hi) k;simp[SV.aU,SV.aC,fz,Hp.aC,Ob.aC,ff,SV.dN] at h;rw[Nat.add_comm 1 k] at h;exact h
theorem Hi (l:List Dt)(hl:l.length<1000000000):SB Tryz.prog dot_Sort.f [bg l] [] 0 3 λ r F=>r= .gs 2 (Dt.set l).length/\F=[(2,s9 (Dt.set l) 2)]:=by
 refine dot_Sort.enter (by simp[SV.ok,SV.au]) rfl (by simp) ?_;dsimp only[dot_Sort.s,Co.M,Co.J,Co.F,Co.P,Co.S];refine SW.seq (SW.g0 im Zm af ?_);refine SW.seq (SW.xd ?_);(repeat (first|refine bq.op af (h:=?_)|refine bq.di af (h:=?_)|refine bq.skip (h:=?_)));refine bq.oL af (zZ l (by omega) 0) (h:=?_);refine bq.oL af (Hh (uj l) (Nat.lt_of_le_of_lt (vu l) hl) 0 1) (h:=?_);(repeat (first|refine bq.op af (h:=?_)|refine bq.di af (h:=?_)|refine bq.skip (h:=?_)));refine bq.nil (SW.ret ?_);exact End.mk [(2,s9 (Dt.set l) 2)] (h4:=⟨rfl,rfl⟩) (h6:=by simp[Hp.ok,Ob.ok,SV.aZ])
theorem Hj (l:List Dt)(hl:l.length<1000000000)(k:Nat):aF Tryz.prog dot_Sort.f [bg l] [] k 3 (.gs (k+2) (Dt.set l).length) [(k+2,s9 (Dt.set l) 2)]:=by
 have h:=SB.nB [] (Hi l hl) (by simp) (λ i hi=>by simp at hi) k;have e:fz [] k 2=k+2:=by simp[fz];omega
 simp only[SV.aU,SV.aC,e,Hp.aC,Ob.aC,SV.dN,List.map_cons,List.map_nil] at h;exact h
set_option maxHeartbeats 4000000 in
theorem DN (X:Ix)(hX:X.small)(o:ag):SB Tryz.prog revoke_sorted_api_Dot.f [.fn (.func revoke_Index_threats_1.f) [] [.ptr 4 0,.ptr 5 0],.fn (.func revoke_Index_Threats_1.f) [] []] (HT X o) 6 (4+jN 4)
  λ r F=>r= .gs 6 (Dt.set (X.ig o)).length/\F=(6,s9 (Dt.set (X.ig o)) 6)::HT X o:=by
 have hlen:=um X hX o;refine revoke_sorted_api_Dot.enter (by simp[SV.au,SV.ok]) (yL X o (Nat.le_refl 6)) (by simp) ?_;dsimp only[revoke_sorted_api_Dot.s,Co.M,Co.J,Co.F,Co.b8,Co.ay,Co.T,Co.K,Co.P,Co.x,Co.W,Co.S];refine SW.seq (SW.g0 ju Zm af ?_);refine SW.seq (SW.g0 ju Zm af ?_);refine SW.ye 7 31 37 2 (by rfl) ?_;refine SW.seq (SW.seq (SW.g0 ju Zm af ?_));refine SW.block (SW.sD (nk:=jN 4) [5,3] [.ptr 7 0,.ptr 6 0] rfl ⟨rfl,rfl,trivial⟩ λ ca cb hca hcb=> ?_)
 let s0:Dy:=⟨[],8⟩
 have hy:=Of (y:=9) (bx:=7) (bf:=6) (by decide) (by decide) (by decide) hca hcb;have hF0:(iB 9 7 6 ca cb s0).ok (λ n=>decide (n<10))=true:=by simp[iB,s0,Hp.ok,Ob.ok,SV.au,SV.ok]
 have hO:pM (TG X o 4 5) (iB 9 7 6 ca cb) s0 10:=by
  refine⟨by simp,λ n hn=> ?_,λ n hn=> ?_,yL X o (by omega),hF0⟩
  .simp only[TG,List.map_cons,List.map_nil,List.mem_cons,List.not_mem_nil,or_false] at hn;omega
  .simp only[TG,List.map_cons,List.map_nil,List.mem_cons,List.not_mem_nil,or_false] at hn
   rcases hn with rfl|rfl|rfl|rfl|rfl|rfl<;>simp[iB,s0,aa,bA]
 have h0:TI X o (iB 9 7 6 ca cb) Oe (Od 9 7 6) s0 10 4 5 10 (X.ig o) s0 10:=⟨⟨[],.nil,rfl⟩,⟨⟨by decide,by decide,by decide⟩,by show 0+_<=_;omega⟩,hO,Nat.le_refl _,by decide,λ n hn=> .inl hn⟩;have hsb:=JD (y:=9) (bx:=4) (bo:=5) (k:=10) X hX o s0 hy h0;have hsubF:HSub (TG X o 4 5++iB 9 7 6 ca cb s0) ((9,.p0 17 [5,3] [.ptr 7 0,.ptr 6 0] [8] ca cb .ready none)::(7,.box 31 [.gs 8 0])::(8,.arr 37 2 0 [])::(7,.box 31 [.d .aG])::(6,.box 123 [.fn (.func revoke_Index_Threats_1.f) [] []])::HT X o):=by
  intro n ob hn
  match n with
  | 0|1|2|3|4|5|6|7|8|9=>simpa[TG,iB,s0,aa] using hn
  | n+10=>simp[TG,iB,s0,aa,bA] at hn
 have hsc:=(hsb.here (λ n=>decide (n<10)) (λ n hn=> ?_) (by simp[SV.au,SV.ok]) (GP (yL X o (by omega)) hF0) ?_).frame hsubF
 .refine hsc.mono ?_
  rintro r F' ⟨F1,⟨rfl,s',hTI,rfl⟩,rfl⟩;obtain⟨xs,hon,hxs⟩:=hTI.h1;rw[List.append_nil] at hxs;have hl':=Qb hon;obtain⟨L,rn⟩:=s';have hL:L=X.ig o:=by rw[hxs];simpa[s0] using hl'
  obtain⟨⟨b1,b2,b3⟩,_⟩:=hTI.h2;dsimp only at b1 b2 b3;have hno:∀ n,n∈(TG X o 4 5).map (·.1)->n≠rn:=λ n hn e=>by
   have:=hTI.own.no n hn;rw[e] at this;simp[iB,aa,b1,b2,b3] at this
  have b4:=hno 4 (by simp);have b5:=hno 5 (by simp);have c0:=hno 0 (by simp);have c1:=hno 1 (by simp);have c2:=hno 2 (by simp);have c3:=hno 3 (by simp);rw[<- hL];have hlk:=iI (ro:=false) (F':=TG X o 4 5++iB 9 7 6 ca cb ⟨L,rn⟩) hsubF (λ h=>by cases h);generalize bU false _ _ _=G at hlk;have hG:∀ n ob,lk (TG X o 4 5++iB 9 7 6 ca cb ⟨L,rn⟩) n=some ob->lk G n=some ob:=λ n ob h=>by
   rw[hlk,fm (.inr (by rw[h];simp)),h]
  refine⟨none,hG 9 _ (by simp[TG,iB,aa,mN]),?_⟩;have hrn:rn<10+jN 4:=by
   have:=(Hp.fC hTI.own.okF (show lk (iB 9 7 6 ca cb ⟨L,rn⟩) rn=some (.arr 37 2 L.length ((L.flatMap Dt.ds).map .d)) by simp[iB,aa,b1,b2,b3])).1
   simpa using this
  refine SW.weak (λ n=>if n=8 then rn else n) (st1:=⟨[(5,.ptr 7 0)],(7,.box 31 [.gs 8 L.length])::(8,.arr 37 2 L.length ((L.flatMap Dt.ds).map .d))::HT X o,10⟩) ?_ ?_
  .have q7:=hG 7 (.box 31 [.gs rn L.length]) (by simp[TG,iB,aa])
   have q8:=hG rn (.arr 37 2 L.length ((L.flatMap Dt.ds).map .d)) (by simp[TG,iB,aa,b1,b2,b3,b4.symm,b5.symm,c0.symm,c1.symm,c2.symm,c3.symm]);have q4:=hG 4 (.box 27 [.ptr 0 0]) (by simp[TG,aa]);have q5:=hG 5 (.box 43 o.cells) (by simp[TG,aa]);have q0:=hG 0 (.box 110 [.any,.mp 1,.mp 2,.mp 3]) (by simp[TG,aa]);have q1:=hG 1 (.map (aq Dt.cells ov X.ops) X.co) (by simp[TG,aa]);have q2:=hG 2 (.map (aq Dt.cells dn X.ch) X.cc) (by simp[TG,aa]);have q3:=hG 3 (.map (aq Dt.cells dn X.mg) X.cf) (by simp[TG,aa]);refine⟨by show 6<=10;omega,λ n hn=>if_neg (by omega),?_,?_,?_⟩
   .simp[aL,List.lookup,SV.aC,SV.ok]
   .simp[tS,cZ,Ob.aC,SV.aU,SV.aC,SV.dN,SV.aZ,Ob.ok,SV.au,SV.ok,q7,q8,q4,q5,q0,q1,q2,q3,b1,ag.aA,ag.aj,cQ,bF,gY,fJ]
   .intro a ha b hb e
    simp only[HT,TG,List.map_cons,List.map_nil,List.mem_cons,List.not_mem_nil,or_false] at ha hb;rcases ha with rfl|rfl|rfl|rfl|rfl|rfl|rfl|rfl<;>rcases hb with rfl|rfl|rfl|rfl|rfl|rfl|rfl|rfl<;>simp at e<;>first|rfl|omega
  .refine SW.ud 8 (L.flatMap Dt.ds) rfl rfl ?_
   simp only[iM,SV.gz,List.map_cons,List.map_nil,if_true,if_false,reduceIte,bY,Nat.reduceEqDiff,CO,HT,TG,Ix.h0,Ob.gz,SV.jX];have e0:∀ m:MM Dt ag,(aq Dt.cells ov m).map (λ e=>(e.1,e.2.1,e.2.2.gz 8 L.length (L.flatMap Dt.ds)))=aq Dt.cells ov m:=λ m=>va (q:=λ _=>false) rfl (bF _ _)
   have e1:∀ m:MM Dt (List Dt),(aq Dt.cells dn m).map (λ e=>(e.1,e.2.1,e.2.2.gz 8 L.length (L.flatMap Dt.ds)))=aq Dt.cells dn m:=λ m=>va (q:=λ _=>false) rfl (fJ _ _)
   have e2:SV.jX 8 L.length (L.flatMap Dt.ds) o.cells=o.cells:=SV.iG (q:=λ _=>false) rfl _ (ag.aj _ _);simp only[e0,e1,e2];have hs:=Hj L (by rw[hL];omega);refine SW.seq (SW.g1 ju Zm af hs ?_);refine SW.weak (λ n=>if n=6 then 12 else n) (st1:=⟨[(4,.gs 6 (Dt.set L).length)],(6,s9 (Dt.set L) 6)::HT X o,10+jN 4⟩) ?_ (SW.ret ?_)
   .refine⟨by show 6<=10+jN 4;omega,λ n hn=>if_neg (by omega),?_,?_,?_⟩
    .simp[aL,List.lookup,SV.aC,SV.ok]
     omega
    .simp[tS,aa,cZ,Ob.aC,SV.aU,SV.aC,SV.dN,SV.aZ,Ob.ok,SV.au,SV.ok,ag.aA,ag.aj,cQ,bF,gY,fJ]
     omega
    .intro a ha b hb e
     simp only[HT,TG,List.map_cons,List.map_nil,List.mem_cons,List.not_mem_nil,or_false] at ha hb;rcases ha with rfl|rfl|rfl|rfl|rfl|rfl|rfl<;>rcases hb with rfl|rfl|rfl|rfl|rfl|rfl|rfl<;>simp at e<;>first|rfl|omega
   exact End.mk ((6,s9 (Dt.set L) 6)::HT X o) (h4:=⟨rfl,rfl⟩) (h5:=by simp[ez,SV.ok];omega) (h6:=ax (by simp;omega) (SV.aZ _) (yL X o (by omega))) (h7:=by show 6+(4+jN 4)<=10+jN 4;omega)
 .match n,hn with
  | 0,_|1,_|2,_|3,_|4,_|5,_|6,_|7,_|8,_|9,_=>simp[TG,iB,s0,aa]
  | n +10,h=>
    have:n+10<10:=by simpa using h
    omega
 .rintro r F' _ h1 h2
  refine⟨SV.fG (λ n hn=> ?_) _ h1,Hp.eu (λ n hn=> ?_) h2⟩<;>(simp at hn ⊢;omega)
theorem DO (X:Ix)(hX:X.small)(o:ag)(k:Nat):aF Tryz.prog revoke_sorted_api_Dot.f [.fn (.func revoke_Index_threats_1.f) [] [.ptr 7 0,.ptr 8 0],.fn (.func revoke_Index_Threats_1.f) [] []] (TG X o 7 8) k (4+jN 4) (.gs k (Dt.set (X.ig o)).length) ((k,s9 (Dt.set (X.ig o)) k)::TG X o 7 8):=by
 have:=SB.nB [0,1,2,3,7,8] (DN X hX o) (by decide) (λ i hi=>by
  match i,hi with
  | 0,_|1,_|2,_|3,_|4,_|5,_=>simp[aa]) k
 simpa[SV.aU,SV.aC,fz,ag.aA,Hp.aC,Ob.aC,cQ,gY,SV.dN] using this
set_option maxHeartbeats 4000000 in
theorem Hl (X:Ix)(hX:X.small)(d:Dt)(hh:MM.has X.ops d=true):SB Tryz.prog revoke_Index_Threats.f [.ptr 0 0,.agg d.cells] X.h0 4 6 λ r F=>r= .de [.gs 9 (X.j9 d).length,i64 0]/\F=(9,s9 (X.j9 d) 9)::X.h0:=by
 refine revoke_Index_Threats.enter (by simp[SV.au,SV.ok]) (X.yK (Nat.le_refl 4)) (by simp) ?_;dsimp only[revoke_Index_Threats.s,Co.M,Co.J,Co.F,Co.C,Co.Z,Co.bC,Co.T,Co.K,Co.E,Co.Q,Co.x,Co.Y,Co.D,Co.A,Co.S];have hl:=GQ X hX d;have hT:X.j9 d=Dt.set (X.ig (X.op d)):=by unfold Ix.j9;rw[if_pos hh]
 refine SW.seq (SW.g0 ke Zm af ?_);refine SW.seq (SW.seq ?_);have hlv:mE X d= .de [.d (.int .i64 (((X.pV d).length:Int) - 1)),i64 0]:=by unfold mE;rw[hh];rfl
 rw[hlv] at hl;refine SW.g1 ke Zm af hl ?_;refine SW.seq (SW.g0 ke Zm af ?_);refine SW.ah rfl (SW.skip (SW.seq ?_));obtain⟨o,ho⟩:∃ o,(MM.get X.ops d).getD ag.zero=o:=⟨_,rfl⟩;have hto:X.op d=o:=ho;have hthr:aF Tryz.prog revoke_Index_threats.f [.ptr 0 0,.agg o.cells] X.h0 7 2 (.fn (.func revoke_Index_threats_1.f) [] [.ptr 7 0,.ptr 8 0]) ((8,.box 43 o.cells)::(7,.box 27 [.ptr 0 0])::X.h0):=Dz X o 7;have hs:=DO X hX o;rw[hT,hto];generalize Dt.set (X.ig o)=R at hs;refine SW.g2 ke Zm ho hthr hs ?_;refine SW.ret ?_;exact End.mk ((9,s9 R 9)::X.h0) (h4:=⟨rfl,rfl⟩) (h6:=ax (by simp) (SV.aZ _) (X.yK (by omega))) (h7:=by show 4+6<=7+2+(4+jN 4);omega)
end Go.Proofs.YtaelhkkjgfobhaaGreat
namespace Go.Proofs.YtaelhkkjgfobhaaGreat
open Go.Sl Go.Proofs
section
section
variable (ig:Dt->List Dt)
def HV:Nat->Dt->Bool
 | 0,_=>true
 | n+1,d=>(ig d).all λ t=> !HV n t
def j_ (K:KM)(d:Dt):List Dt:=(ig d).filter λ t=>decide (K.get t=2)
def vN (K:KM)(d:Dt):KM:=if (j_ ig (K.put d 2) d).length>0 then (K.put d 2).put d 1 else K.put d 2
def ia (ds:List Dt):KM:=ds.foldl (λ K d=>K.put d 0) ⟨[],0⟩
def yQ (K:KM)(xs:List Dt):KM:=xs.foldl (vN ig) K
theorem vO (ds:List Dt)(d:Dt):ia (ds++[d])=(ia ds).put d 0:=by unfold ia;rw[List.foldl_append];rfl
theorem vP (K:KM)(xs:List Dt)(d:Dt):yQ ig K (xs++[d])=vN ig (yQ ig K xs) d:=by unfold yQ;rw[List.foldl_append];rfl
variable {ig}
theorem Aq {lv:Dt->Nat}(hlv:∀ d t,t∈ig d->lv t<lv d):∀ (n m:Nat) (d:Dt),lv d<n->lv d<m->HV ig n d=HV ig m d
 | 0,_,_,h,_=>absurd h (Nat.not_lt_zero _)
 | _,0,_,_,h=>absurd h (Nat.not_lt_zero _)
 | n +1,m+1,d,h1,h2=>by
  simp only[HV];rw[Bool.eq_iff_iff,List.all_eq_true,List.all_eq_true];have key:∀ t,t∈ig d->HV ig n t=HV ig m t:=λ t ht=>by
   have:=hlv d t ht;exact Aq hlv n m t (by omega) (by omega)
  exact⟨λ h t ht=>by rw[<- key t ht];exact h t ht,λ h t ht=>by rw[key t ht];exact h t ht⟩
structure VI (gv:Dt->Bool)(ds xs:List Dt)(K:KM):Prop where
 wf:MM.wf K.m K.c
 keys:∀ d,MM.has K.m d=true↔d∈ds
 get:∀ d,K.get d=if d∈xs then (if gv d then 2 else 1) else 0
theorem KM.nD (K:KM)(d:Dt)(n:Nat)(e:Dt):MM.has (K.put d n).m e=(decide (e=d) || MM.has K.m e):=MM.nD
theorem KM.gB {K:KM}(h:MM.wf K.m K.c)(d:Dt)(n:Nat):MM.wf (K.put d n).m (K.put d n).c:=MM.gB h d n
theorem Ar:∀ n (ds:List Dt),ds.length=n->MM.wf (ia ds).m (ia ds).c/\(∀ d,MM.has (ia ds).m d=true↔d∈ds)/\∀ d,(ia ds).get d=0:=by
 intro n
 induction n with
 | zero=>
  intro ds h;rw[List.eq_nil_of_length_eq_zero h];exact⟨MM.k_,λ d=>by simp[ia,MM.has,MM.get],λ d=>by simp[ia,KM.get,MM.get]⟩
 | succ n ih=>
  intro ds h;have hne:ds≠[]:=λ e=>by rw[e] at h;cases h
  obtain⟨t,d,rfl⟩:∃ t d,ds=t++[d]:=⟨ds.dropLast,ds.getLast hne,(List.dropLast_concat_getLast hne).symm⟩;obtain⟨h1,h2,h3⟩:=ih t (by simp at h;exact h);rw[vO];refine⟨KM.gB h1 _ _,λ e=> ?_,λ e=> ?_⟩
  .rw[KM.nD,Bool.or_eq_true,decide_eq_true_eq,h2,List.mem_append,List.mem_singleton,or_comm]
  .rw[KM.c_]
   split
   .rfl
   .exact h3 e
theorem VI.zero (gv:Dt->Bool)(ds:List Dt):VI gv ds [] (ia ds):=by
 obtain⟨h1,h2,h3⟩:=Ar _ ds rfl;exact⟨h1,h2,λ d=>by rw[h3,if_neg (by simp)]⟩
theorem VI.step {gv:Dt->Bool}{ds xs:List Dt}{K:KM}(h:VI gv ds xs K){x:Dt}(hx:x∈ds)(ht:∀ t,t∈ig x->t∈xs/\t≠x)(hg:gv x=(ig x).all λ t=> !gv t):VI gv ds (xs++[x]) (vN ig K x):=by
 have hp:∀ t,t∈ig x->((K.put x 2).get t=2↔gv t=true):=λ t htt=>by
  obtain⟨h1,h2⟩:=ht t htt;rw[KM.c_,if_neg h2,h.get,if_pos h1];cases gv t<;>simp
 have hh:(j_ ig (K.put x 2) x).length>0↔gv x=false:=by
  rw[hg,List.all_eq_false];unfold j_;rw[gt_iff_lt,List.length_pos_iff_exists_mem];simp only[List.mem_filter,decide_eq_true_eq];constructor
  .rintro⟨t,h1,h2⟩
   exact⟨t,h1,by simp[(hp t h1).1 h2]⟩
  .rintro⟨t,h1,h2⟩
   exact⟨t,h1,(hp t h1).2 (by simpa using h2)⟩
 have hk:∀ d,d=x\/d∈ds↔d∈ds:=λ d=>⟨λ h=>h.elim (λ e=>by rw[e];exact hx) id,.inr⟩
 unfold vN
 by_cases hc:(j_ ig (K.put x 2) x).length>0
 .have hgf:=hh.1 hc
  rw[if_pos hc];refine⟨KM.gB (KM.gB h.wf _ _) _ _,λ d=> ?_,λ d=> ?_⟩
  .rw[KM.nD,KM.nD,Bool.or_eq_true,Bool.or_eq_true,decide_eq_true_eq,h.keys,hk,hk]
  .rw[KM.c_,KM.c_,h.get]
   by_cases e:d=x
   .subst e;simp[hgf]
   .simp[e]
 .have hgf:gv x=true:=by
   cases hgx:gv x with
   | true=>rfl
   | false=>exact absurd (hh.2 hgx) hc
  rw[if_neg hc];refine⟨KM.gB h.wf _ _,λ d=> ?_,λ d=> ?_⟩
  .rw[KM.nD,Bool.or_eq_true,decide_eq_true_eq,h.keys,hk]
  .rw[KM.c_,h.get]
   by_cases e:d=x
   .subst e;simp[hgf]
   .simp[e]
theorem Bw {gv:Dt->Bool}{ds L:List Dt}(hds:∀ d,d∈L->d∈ds)(Om:∀ A x B,L=A++x::B->∀ t,t∈ig x->t∈A/\t≠x)(hg:∀ d,gv d=(ig d).all λ t=> !gv t):∀ i,i<=L.length->VI gv ds (L.take i) (yQ ig (ia ds) (L.take i))
 | 0,_=>VI.zero gv ds
 | i +1,hi=>by
  obtain⟨x,hx⟩:=aP (show i<L.length by omega);have hxm:=List.mem_of_getElem? hx;have e:=bt hx;have he:L=L.take i++x::L.drop (i+1):=by
   have:L[i]=x:=by rw[List.getElem?_eq_getElem (by omega)] at hx;exact Option.some.inj hx
   rw[<- this,<- List.drop_eq_getElem_cons,List.take_append_drop]
  rw[e,vP];exact(Bw hds Om hg i (by omega)).step (hds x hxm) (Om _ _ _ he) (hg x)
end
theorem xO {l:List ag}{d t:Dt}:t∈bE l d↔bJ l d=true/\bJ l t=true/\j7 l d t=true:=by
 unfold bE
 split
 .rename_i h
  rw[List.mem_filter,jh];exact⟨λ h2=>⟨h,h2⟩,λ h2=>h2.2⟩
 .rename_i h
  exact⟨λ h2=>(by cases h2),λ h2=>absurd h2.1 h⟩
theorem s_ {l:List ag}{d:Dt}(h:bJ l d=true):∃ o,aJ l d=some o/\fB l o=0/\j4 l d=o/\o.dot=d:=by
 unfold bJ at h;cases hf:aJ l d with
 | none=>rw[hf] at h;cases h
 | some o=>
  rw[hf] at h;exact⟨o,rfl,of_decide_eq_true h,bI hf,eW hf⟩
theorem pY {l:List ag}{d t:Dt}(h:t∈bE l d):eP l t<eP l d:=by
 obtain⟨h1,h2,h3⟩:=xO.1 h;obtain⟨o,_,ho,e1,_⟩:=s_ h1;obtain⟨r,_,hr,e2,_⟩:=s_ h2;unfold j7 s6 at h3;rw[e1,e2] at h3;simp only[Bool.and_eq_true,decide_eq_true_eq] at h3;unfold eP;rw[e1,e2];exact(JG ho hr h3.1 h3.2.1).1
noncomputable def Ho (l:List ag)(d:Dt):Bool:=HV (bE l) (eP l d+1) d
theorem Bx (l:List ag)(d:Dt):Ho l d=(bE l d).all λ t=> !Ho l t:=by
 unfold Ho;show((bE l d).all λ t=> !HV (bE l) (eP l d) t)=_;rw[Bool.eq_iff_iff,List.all_eq_true,List.all_eq_true];have key:∀ t,t∈bE l d->HV (bE l) (eP l d) t=HV (bE l) (eP l t+1) t:=λ t ht=>
  Aq (lv:=eP l) (λ _ _ h=>pY h) _ _ t (pY ht) (Nat.lt_succ_self _)
 exact⟨λ h t ht=>by rw[<- key t ht];exact h t ht,λ h t ht=>by rw[key t ht];exact h t ht⟩
noncomputable def eB (l:List ag)(d:Dt):Nat:=if bJ l d then (if Ho l d then 2 else 1) else 0
theorem As {l:List ag}{j:Nat}{L:List Dt}(h:(jr l)[j]? =some L):L=(bn l).filter λ v=>decide (eP l v=j):=by
  unfold jr at h;rw[List.getElem?_map] at h;obtain⟨i,hi,rfl⟩:=Option.map_eq_some_iff.1 h;rw[List.getElem?_range] at hi
  . injection hi with hi
    rw[hi]
  . by_cases hj:j<v7 (eP l) (bn l)
    . exact hj
    . rw[List.getElem?_eq_none (by simpa using hj)] at hi
      cases hi
theorem lS {l:List ag}{d:Dt}:d∈(jr l).flatten↔bJ l d=true:=by
 rw[List.mem_flatten,<- jh];constructor
 .rintro⟨L,hL,hd⟩
  obtain⟨j,hj⟩:=List.mem_iff_getElem?.1 hL;rw[As hj] at hd;exact(List.mem_filter.1 hd).1
 .intro hd
  refine⟨_,List.mem_map.2 ⟨eP l d,List.mem_range.2 (pW hd),rfl⟩,List.mem_filter.2 ⟨hd,by simp⟩⟩
theorem pn {c:Dt->Nat}:∀ (R:List (List Dt)) (b:Nat),(∀ j L,R[j]? =some L->∀ d,d∈L->c d=b+j)->∀ A x B,R.flatten=A++x::B->∀ t,t∈R.flatten->c t<c x->t∈A
 | [],_,_,A,x,B,h,t,ht,_=>by simp at ht
 | L ::R,b,hR,A,x,B,h,t,ht,hlt=>by
  rw[List.flatten_cons] at h ht;have h0:=hR 0 L rfl;have hR':∀ j M,R[j]? =some M->∀ d,d∈M->c d=(b+1)+j:=λ j M hj d hd=>by
   have:=hR (j+1) M hj d hd;omega
  have hge:∀ d,d∈R.flatten->b<c d:=λ d hd=>by
   obtain⟨M,hM,hd⟩:=List.mem_flatten.1 hd;obtain⟨j,hj⟩:=List.mem_iff_getElem?.1 hM;have:=hR' j M hj d hd;omega
  rcases List.append_eq_append_iff.1 h with⟨C,e1,e2⟩|⟨C,e1,e2⟩
  ·
   rw[e1];rcases List.mem_append.1 ht with ht|ht
   .exact List.mem_append.2 (.inl ht)
   .exact List.mem_append.2 (.inr (pn R (b+1) hR' C x B e2 t ht hlt))
  ·
   have hx:x∈L\/(C=[]/\x∈R.flatten):=by
    cases C with
    | nil=>exact .inr ⟨rfl,by rw[List.nil_append] at e2;rw[<- e2];simp⟩
    | cons y C=>
     rw[List.cons_append] at e2;injection e2 with e3 e4;exact .inl (by rw[e1,e3];simp)
   rcases hx with hx|⟨hC,hx⟩
   .have hcx:=h0 x hx
    rcases List.mem_append.1 ht with ht|ht
    .have:=h0 t ht;omega
    .have:=hge t ht;omega
   .subst hC
    rw[List.append_nil] at e1;rw[List.nil_append] at e2;rw[<- e1];rcases List.mem_append.1 ht with ht|ht
    .exact ht
    .have:=pn R (b+1) hR' [] x B (by rw[<- e2];rfl) t ht hlt
     cases this
noncomputable def dY (l:List ag):KM:=yQ (bE l) (ia (o9 l)) (jr l).flatten
theorem pZ (l:List ag):VI (Ho l) (o9 l) (jr l).flatten (dY l):=by
 have:=Bw (ig:=bE l) (gv:=Ho l) (ds:=o9 l) (L:=(jr l).flatten) (λ d hd=>rW (lS.1 hd)) (λ A x B e t ht=>by
  have hlt:=pY ht;refine⟨pn (c:=eP l) (jr l) 0 (λ j L hj d hd=> ?_) A x B e t (lS.2 (vL ht)) hlt,λ e=>by rw[e] at hlt;omega⟩;rw[As hj] at hd;have:=of_decide_eq_true (List.mem_filter.1 hd).2;omega) (Bx l) _ (Nat.le_refl _)
 rw[List.take_length] at this;exact this
theorem fU (l:List ag)(d:Dt):(dY l).get d=eB l d:=by
 rw[(pZ l).get];unfold eB
 by_cases h:bJ l d=true
 .rw[if_pos (lS.2 h),if_pos h]
 .rw[if_neg (λ h2=>h (lS.1 h2)),if_neg h]
end
section
attribute [local irreducible] SW RW aF SC ai ak jN tF
abbrev xP (K:KM):Ob:= .map (aq Dt.cells kv K.m) K.c
theorem Hq (K:KM)(x:Dt):SB Tryz.prog verdict_hits_1.f [.agg x.cells,.ptr 1 0] [(1,.box 76 [.mp 0]),(0,xP K)] 2 0 λ r F=>r=bl (!decide (K.get x=2))/\F=[(1,.box 76 [.mp 0]),(0,xP K)]:=by
 refine verdict_hits_1.enter (by simp[SV.au,SV.ok,Dt.aj]) (by simp[Hp.ok,Ob.ok,SV.au,SV.ok,eN]) (by simp) ?_;dsimp only[verdict_hits_1.s,Co.M,Co.J,Co.F,Co.B,Co.b8,Co.T,Co.K,Co.x,Co.S];have hlk:=pX K.m x;change _=SV.d (.int .u8 ((K.get x:Nat):Int)) at hlk;have g2:(((K.get x:Nat):Int) != 2)= !decide (K.get x=2):=by
  by_cases h:K.get x=2
  .rw[h];rfl
  .have:((K.get x:Nat):Int)≠2:=by omega
   simp[h,this]
 refine SW.seq (SW.g0 jp Zm af ?_);refine SW.seq (SW.g0 jp Zm (Zq hlk g2) ?_);refine SW.ret ?_;exact End.mk [(1,.box 76 [.mp 0]),(0,xP K)] (h4:=⟨rfl,rfl⟩) (h6:=by simp[Hp.ok,Ob.ok,SV.au,SV.ok,eN])
abbrev Oo (K:KM):Hp:=[(5,.box 76 [.mp 4]),(4,xP K)]
theorem Hr (K:KM)(x:Dt)(k:Nat):aF Tryz.prog verdict_hits_1.f [.agg x.cells,.ptr 5 0] (Oo K) k 0 (bl (!decide (K.get x=2))) (Oo K):=by
 have:=SB.nB [4,5] (Hq K x) (by decide) (λ i hi=>by
  match i,hi with
  | 0,_|1,_=>simp[aa]) k
 simpa[SV.aU,SV.aC,fz,Dt.aA,Hp.aC,Ob.aC,h_] using this
theorem JT (K:KM)(B:Nat):vK (σ:=Unit) Tryz.prog verdict_hits_1.f [] [.ptr 5 0] (λ _=>Oo K) (λ _ x=>((),!decide (K.get x=2))) 0 (λ _ _=>True) (λ _=>True) B where
 nd s:=by simp
 nm s x:=rfl
 nx _ _ _ _ _ _:=trivial
 ok s x q h:=h
 call i s x k _ _ _ _:=Hr K x k
 a1 s q h:=by
  simp only[Hp.ok,List.all_cons,Bool.and_eq_true] at h;exact⟨rfl,by simp[SV.au,SV.ok,h.1.1]⟩
theorem rX (p:Dt->Bool):∀ L:List Dt,fE (λ (_:Unit) x=>((),!p x)) () L=(L.filter p,())
 | []=>rfl
 | x::L=>by
  simp only[fE];rw[rX p L];cases h:p x<;>simp[h]
theorem Bz (K:KM)(L:List Dt)(hL:L.length<1000000000):aF Tryz.prog slices_DeleteFunc_Lapi_Dot_api_Dot.f [.gs 12 L.length,.fn (.func verdict_hits_1.f) [] [.ptr 5 0]] ((12,s9 L 12)::Oo K) 13 (L.length*0+L.length*(0+1))
  (.gs 12 (L.filter λ t=>decide (K.get t=2)).length) ((12,s9 (L.filter λ t=>decide (K.get t=2)) 12)::Oo K):=by
 have:=Bs (JT K L.length) L () hL (Nat.le_refl _) (λ _ _=>trivial) trivial 12 13 (by decide) ⟨rfl,by simp[Hp.ok,Ob.ok,SV.au,SV.ok,eN],by simp[aa,bA]⟩ (by simp[Hp.ok,Ob.ok,SV.au,SV.ok,eN,aa]);rw[rX (λ t=>decide (K.get t=2)) L] at this;exact this
theorem JU (X:Ix)(hX:X.small)(d:Dt)(hh:MM.has X.ops d=true)(k:Nat):aF Tryz.prog revoke_Index_Threats.f [.ptr 0 0,.agg d.cells] X.h0 k 6 (.de [.gs (k+5) (X.j9 d).length,i64 0]) ((k+5,s9 (X.j9 d) 9)::X.h0):=by
 have:=SB.nB [0,1,2,3] (Hl X hX d hh) (by decide) X.N9 k;simp[SV.aU,SV.aC,fz,Dt.aA,Hp.aC,Ob.aC,cQ,gY,SV.dN] at this;rw[Nat.add_comm 5 k] at this;exact this
set_option maxHeartbeats 4000000 in
theorem Cs (X:Ix)(hX:X.small)(K:KM)(d:Dt)(hh:MM.has X.ops d=true)(hT:(X.j9 d).length<1000000000):SB Tryz.prog verdict_hits.f [.ptr 0 0,.mp 4,.agg d.cells] ((4,xP K)::X.h0) 5 8
  λ r F=>r= .gs 12 (j_ X.j9 K d).length/\F=(12,s9 (j_ X.j9 K d) 12)::(4,xP K)::X.h0:=by
 refine verdict_hits.enter (by simp[SV.au,SV.ok,Dt.aj]) (ax (by simp) (eN _ _) (X.yK (by decide))) (by simp) ?_;dsimp only[verdict_hits.s,Co.M,Co.J,Co.F,Co.K,Co.E,Co.Q,Co.x,Co.S];have cT:aF Tryz.prog revoke_Index_Threats.f [.ptr 0 0,.agg d.cells] X.h0 7 6 (.de [.gs 12 (X.j9 d).length,i64 0]) ((12,s9 (X.j9 d) 9)::X.h0):=JU X hX d hh 7;have cD:=Bz K (X.j9 d) hT;unfold j_;generalize X.j9 d=L at cT cD hT ⊢;refine SW.seq (SW.g0 fX Zm af ?_);refine SW.seq (SW.g1 fX Zm af cT ?_);refine SW.seq (SW.g1 fX Zm af cD ?_);refine SW.ret ?_;generalize (L.filter λ t=>decide (K.get t=2))=R;exact End.mk ((12,s9 R 12)::(4,xP K)::X.h0) (h4:=⟨rfl,rfl⟩) (h6:=ax (by simp) (SV.aZ _) (ax (by simp) (eN _ _) (X.yK (by decide))))
end
section
attribute [local irreducible] SW RW aF SC ai ak jN tF
abbrev vH (X:Ix)(K:KM):Hp:=(15,xP K)::X.KR
theorem tI (X:Ix)(K:KM){k:Nat}(hk:16<=k):(vH X K).ok (λ n=>decide (n<k))=true:=
 ax (by simp;omega) (eN _ _) (ax (by simp;omega) (by simp[Ob.ok,SV.au,SV.ok];omega) (ax (by simp;omega) (bF _ _) (ax (by simp;omega) (fJ _ _) (ax (by simp;omega) (fJ _ _) rfl))))
theorem Hs (X:Ix)(K:KM):∀ y,y∈vH X K->lk (vH X K) y.1=some y.2:=λ y hy=>by
 simp only[List.mem_cons,List.not_mem_nil,or_false] at hy;rcases hy with rfl|rfl|rfl|rfl|rfl<;>rfl
theorem MH (X:Ix)(K:KM)(o:Ob):∀ y,y∈vH X K->lk ((16,o)::vH X K) y.1=some y.2:=λ y hy=>by
 simp only[List.mem_cons,List.not_mem_nil,or_false] at hy;rcases hy with rfl|rfl|rfl|rfl|rfl<;>rfl
theorem JV (X:Ix)(hX:X.small)(K:KM)(d:Dt)(hh:MM.has X.ops d=true)(hT:(X.j9 d).length<1000000000)(k:Nat):aF Tryz.prog verdict_hits.f [.ptr 14 0,.mp 15,.agg d.cells] (vH X K) k 8 (.gs (k+7) (j_ X.j9 K d).length) ((k+7,s9 (j_ X.j9 K d) 12)::vH X K):=by
 have:=SB.nB [14,11,12,13,15] (Cs X hX K d hh hT) (by decide) (λ i hi=>by
  match i,hi with
  | 0,_|1,_|2,_|3,_|4,_=>simp[aa]) k
 generalize j_ X.j9 K d=R at this ⊢;simp[SV.aU,SV.aC,fz,Dt.aA,Hp.aC,Ob.aC,cQ,gY,h_,SV.dN] at this;rw[Nat.add_comm 7 k] at this;exact this
theorem Ht {X:Ix}(hX:X.small)(h9:∀ d,X.oA d<=9)(k:Nat):aF Tryz.prog revoke_Index_Levels.f [.ptr 14 0] X.KR k xK (g_ X.jr) X.KR:=Ix.Pe (G6 X hX h9) (λ k=>by simp[SV.aU,SV.aC,fz]) (λ k=>by simp[g_,SV.aC]) k
theorem pq (l:List ag):(bn l).length<=l.length:=by
 unfold bn;refine Nat.le_trans (Dt.qH _) ?_;unfold ow;rw[List.length_map];exact List.length_filter_le _ _
theorem gw {R:List (List Dt)}{j:Nat}{L:List Dt}(h:R[j]? =some L):(R.take (j+1)).flatten=(R.take j).flatten++L:=by rw[bt h,List.flatten_append];simp
set_option maxHeartbeats 16000000 in
theorem Hu (l:List ag)(hl:l.length<=80)(hrow:o8 l):SB Tryz.prog verdict_all.f [ops l] [] 0 16 λ r F=>∃ S,∃ h:dG l S,r= .de [.mp 15,.ptr 14 0]/\F=vH h.X (dY l):=by
 refine verdict_all.enter (by first|rfl|simp[SV.ok,SV.au]) (by first|rfl|simp[Hp.ok,Ob.ok,SV.ok,SV.au,aB.aj]) (by simp) ?_;dsimp only[verdict_all.s,Co.M,Co.J,Co.N,Co.F,Co.Z,Co.b8,Co.ay,Co.T,Co.K,Co.L,Co.P,Co.R,Co.W,Co.Y,Co.V,Co.I,Co.S];refine SW.seq (SW.g0 al Zm af ?_);refine SW.seq (SW.xd ?_);(repeat (first|refine bq.op af (h:=?_)|refine bq.di af (h:=?_)|refine bq.skip (h:=?_)));refine bq.aW (L8 l (by omega) (λ o ho=>⟨(hrow o ho).1,(hrow o ho).2.1⟩)) (HSub.nil _) (h:=?_);rintro _ _ ⟨S,h,rfl,rfl⟩;simp only[bU,dx,dy,gA,gR,bY,lk,List.lookup,Nat.reduceBEq,BEq.rfl,beq_self_eq_true,if_true,if_false,reduceIte,Nat.reduceEqDiff,Bool.false_eq_true,Option.isSome_some,Option.isSome_none,Nat.reduceAdd];(repeat (first|refine bq.op af (h:=?_)|refine bq.di af (h:=?_)|refine bq.skip (h:=?_)));refine bq.nil ?_;have cN:=h.Pj hl (h.short hrow);have cD:=h.GC hl;have hsm:=h.small hl;have hT:=h.K9 hl;have eT:=h.Cq;have hhas:∀ d,MM.has h.X.ops d=bJ l d:=λ d=>by rw[h.GU,h.tH]
 have h9:∀ d,h.X.oA d<=9:=λ d=>by have:=h.Pq d;omega
 have cL:=Ht hsm h9;rw[h.Po] at cL;have hc9:∀ v,v∈bn l->eP l v<=9:=λ v hv=>by
  have hg:S.good v=true:=by rw[h.tH];exact jh.1 hv
  rw[<- h.K8 hg];exact h9 v
 have hRl:(jr l).length<=10:=by
  unfold jr;rw[List.length_map,List.length_range];exact o7 λ v hv=>by have:=hc9 v hv;omega
 have hRs:∀ L,L∈jr l->Dt.set L=L/\L.length<=80/\∀ d,d∈L->bJ l d=true:=λ L hL=>by
  refine⟨G7 hL,?_,λ d hd=>lS.1 (List.mem_flatten.2 ⟨L,hL,hd⟩)⟩;obtain⟨j,_,rfl⟩:=List.mem_map.1 hL;have h2:=List.length_filter_le (λ v=>decide (eP l v=j)) (bn l);have h3:=pq l;omega
 have hds:(o9 l).length<=80:=h.kT hl;have hV:dY l=yQ (bE l) (ia (o9 l)) (jr l).flatten:=rfl;refine SW.seq (SW.g1 al Zm af cN ?_);refine SW.seq (SW.g0 al Zm af ?_);refine SW.seq (SW.seq (SW.g1 al Zm af cD ?_));obtain⟨X,eX⟩:∃ X,h.X=X:=⟨_,rfl⟩;rw[eX] at hsm hT eT h9 cL;simp only[eX] at hhas;obtain⟨D,eD⟩:∃ D,o9 l=D:=⟨_,rfl⟩;rw[eD] at hV hds;obtain⟨R,eR⟩:∃ R,jr l=R:=⟨_,rfl⟩;rw[eR] at hV hRl hRs cL;simp only[eX,eD];refine SW.block (SW.loop (α:={i:Nat // i<=D.length}) (λ i=>⟨[(21,i64 i.1),(20,i64 D.length),(19,bg D),(6,.mp 15),(5,.ptr 14 0)],vH X (ia (D.take i.1)),16⟩) (λ i=>D.length - i.1) ⟨0,Nat.zero_le _⟩ id (aH.same (Nat.zero_le _) (by simp[aL,List.lookup,SV.aC,SV.ok,SV.au]) (tI _ _ (Nat.le_refl _)) (λ y hy=> ?_)) ?_)
 .simp only[List.mem_cons,List.not_mem_nil,or_false] at hy
  rcases hy with rfl|rfl|rfl|rfl|rfl<;>rfl
 rintro⟨i,hi⟩;dsimp only
 by_cases hik:i<D.length
 .have h1:decide ((i:Int)<D.length)=true:=by simp only[decide_eq_true_eq];omega
  obtain⟨d,hx⟩:=aP hik;have e2:IntKind.i64.wrap ((i:Int)+1)=((i+1:Nat):Int):=wrap_i64 _ (by omega);have hz:=vO (D.take i) d;rw[<- bt hx] at hz;generalize ia (D.take i)=K at hz ⊢;have m0:kf (aq Dt.cells kv K.m) K.c (.agg d.cells) (.d (.int .u8 0)) (MM.idx K.m d)= .map (aq Dt.cells kv (K.put d 0).m) (K.put d 0).c:=yP K.m K.c d 0;dsimp only[vH,Ix.KR,xP];refine SW.seq (SW.g0 al Zm h1 ?_);refine SW.seq (SW.an rfl (SW.skip (SW.seq (SW.block (SW.seq (SW.g0 al Zm (Zq (b_ hx) (eA hx)) ?_))))));refine SW.g0 al Zm m0 ?_;refine SW.g0 al Zm e2 ?_;refine⟨⟨i+1,by omega⟩,id,by show D.length - (i+1)<D.length - i;omega,?_⟩;dsimp only;rw[hz];exact aH.same (Nat.zero_le _) (by simp[aL,List.lookup,SV.aC,SV.ok,SV.au]) (tI _ _ (Nat.le_refl _)) (MH X _ _)
 have h1:decide ((i:Int)<D.length)=false:=by simp only[decide_eq_false_iff_not];omega
 rw[List.take_of_length_le (show D.length<=i by omega)];refine SW.seq (SW.g0 al Zm h1 ?_);refine SW.seq (SW.ah rfl (SW.exit ?_));refine(?_:Sl.SW _ _ _ _ _ _);refine SW.seq (SW.g1 al Zm af cL ?_);refine SW.seq (SW.seq ?_);simp only[g_];refine SW.g0 al Zm af ?_;refine SW.block (SW.loop (α:={k:Nat // k<=R.length}) (λ k=>⟨[(32,i64 k.1),(31,i64 R.length),(9,g_ R),(6,.mp 15),(5,.ptr 14 0)],vH X (yQ (bE l) (ia D) (R.take k.1).flatten),16⟩) (λ k=>R.length - k.1) ⟨0,Nat.zero_le _⟩ id (aH.same (Nat.zero_le _) (by simp[aL,List.lookup,SV.aC,SV.ok,SV.au,g_]) (tI _ _ (Nat.le_refl _)) (Hs X _)) ?_);rintro⟨k,hk⟩;dsimp only
 by_cases hkk:k<R.length
 .have h1:decide ((k:Int)<R.length)=true:=by simp only[decide_eq_true_eq];omega
  obtain⟨L,hx⟩:=aP hkk;have e2:IntKind.i64.wrap ((k:Int)+1)=((k+1:Nat):Int):=wrap_i64 _ (by omega);obtain⟨hL1,hL80,hLg⟩:=hRs L (List.mem_of_getElem? hx);have g1:(List.map SV.d (R.map λ L=>HU (Dt.set L)))[k]? =some (bg L):=by
   have:(List.map SV.d (R.map λ L=>HU (Dt.set L)))[k]? =some (.d (HU (Dt.set L))):=by rw[List.getElem?_map,List.getElem?_map,hx];rfl
   rw[this,hL1];rfl
  have hft:=gw hx;simp only[g_];refine SW.seq ?_;refine SW.g0 al Zm h1 ?_;refine SW.seq (SW.an rfl (SW.skip ?_));refine SW.seq (SW.block (SW.seq ?_));refine SW.g0 al Zm af ?_;refine SW.seq ?_;refine SW.g0 al Zm g1 ?_;refine SW.block ?_;refine SW.loop (α:={i:Nat // i<=L.length}) (λ i=>⟨[(40,i64 i.1),(39,i64 L.length),(38,bg L),(32,i64 k),(31,i64 R.length),(9,g_ R),(6,.mp 15),(5,.ptr 14 0)],vH X (yQ (bE l) (ia D) ((R.take k).flatten++L.take i.1)),16⟩) (λ i=>L.length - i.1) ⟨0,Nat.zero_le _⟩ id (by
   dsimp only;rw[List.take_zero,List.append_nil];exact aH.same (Nat.zero_le _) (by simp[aL,List.lookup,SV.aC,SV.ok,SV.au,g_]) (tI _ _ (Nat.le_refl _)) (Hs X _)) ?_
  rintro⟨i,hi⟩;dsimp only
  by_cases hil:i<L.length
  .have h3:decide ((i:Int)<L.length)=true:=by simp only[decide_eq_true_eq];omega
   obtain⟨d,hd⟩:=aP hil;have e4:IntKind.i64.wrap ((i:Int)+1)=((i+1:Nat):Int):=wrap_i64 _ (by omega);have hh:MM.has X.ops d=true:=by rw[hhas];exact hLg d (List.mem_of_getElem? hd)
   have hvs:=vP (bE l) (ia D) ((R.take k).flatten++L.take i) d;rw[List.append_assoc,<- bt hd] at hvs;generalize yQ (bE l) (ia D) ((R.take k).flatten++L.take i)=K at hvs ⊢;have m2:kf (aq Dt.cells kv K.m) K.c (.agg d.cells) (.d (.int .u8 2)) (MM.idx K.m d)= .map (aq Dt.cells kv (K.put d 2).m) (K.put d 2).c:=yP K.m K.c d 2;have m1:kf (aq Dt.cells kv (K.put d 2).m) (K.put d 2).c (.agg d.cells) (.d (.int .u8 1)) (MM.idx (K.put d 2).m d)= .map (aq Dt.cells kv ((K.put d 2).put d 1).m) ((K.put d 2).put d 1).c:=yP (K.put d 2).m (K.put d 2).c d 1;have cH:=JV X hsm (K.put d 2) d hh (hT d) 17;rw[eT] at cH;unfold vN at hvs;generalize K.put d 2=K2 at m2 m1 cH hvs;generalize K2.put d 1=K3 at m1 hvs;generalize j_ (bE l) K2 d=H at cH hvs;dsimp only[vH,Ix.KR,xP] at cH ⊢;refine SW.seq (SW.g0 al Zm h3 ?_);refine SW.seq (SW.an rfl (SW.skip (SW.seq (SW.block (SW.seq (SW.g0 al Zm (Zq (b_ hd) (eA hd)) ?_))))));refine SW.seq (SW.g0 al Zm m2 ?_);refine SW.seq ?_
   by_cases hc:H.length>0
   .have c1:decide ((H.length:Int)>0)=true:=by simp only[decide_eq_true_eq];omega
    rw[if_pos hc] at hvs;refine SW.g1 al Zm c1 cH ?_;refine SW.an rfl ?_;refine SW.g0 al Zm m1 ?_;refine SW.g0 al Zm e4 ?_;refine⟨⟨i+1,by omega⟩,id,by show L.length - (i+1)<L.length - i;omega,?_⟩;dsimp only;rw[hvs];exact aH.same (Nat.zero_le _) (by simp[aL,List.lookup,SV.aC,SV.ok,SV.au,g_]) (tI _ _ (Nat.le_refl _)) (λ y hy=>by
     simp only[List.mem_cons,List.not_mem_nil,or_false] at hy;rcases hy with rfl|rfl|rfl|rfl|rfl<;>rfl)
   .have c1:decide ((H.length:Int)>0)=false:=by simp only[decide_eq_false_iff_not];omega
    rw[if_neg hc] at hvs;refine SW.g1 al Zm c1 cH ?_;refine SW.ah rfl (SW.skip ?_);refine SW.g0 al Zm e4 ?_;refine⟨⟨i+1,by omega⟩,id,by show L.length - (i+1)<L.length - i;omega,?_⟩;dsimp only;rw[hvs];exact aH.same (Nat.zero_le _) (by simp[aL,List.lookup,SV.aC,SV.ok,SV.au,g_]) (tI _ _ (Nat.le_refl _)) (λ y hy=>by
     simp only[List.mem_cons,List.not_mem_nil,or_false] at hy;rcases hy with rfl|rfl|rfl|rfl|rfl<;>rfl)
  have h3:decide ((i:Int)<L.length)=false:=by simp only[decide_eq_false_iff_not];omega
  rw[List.take_of_length_le (show L.length<=i by omega),<- hft];refine SW.seq (SW.g0 al Zm h3 ?_);refine SW.seq (SW.ah rfl (SW.exit ?_));refine(?_:Sl.SW _ _ _ _ _ _);refine SW.g0 al Zm e2 ?_;refine⟨⟨k+1,by omega⟩,id,by show R.length - (k+1)<R.length - k;omega,?_⟩;exact aH.same (Nat.zero_le _) (by simp[aL,List.lookup,SV.aC,SV.ok,SV.au,g_]) (tI _ _ (Nat.le_refl _)) (Hs X _)
 have h3:decide ((k:Int)<R.length)=false:=by simp only[decide_eq_false_iff_not];omega
 rw[List.take_of_length_le (show R.length<=k by omega),<- hV];refine SW.seq (SW.g0 al Zm h3 ?_);refine SW.seq (SW.ah rfl (SW.exit ?_));refine(?_:Sl.SW _ _ _ _ _ _);refine SW.seq (SW.g0 al Zm af ?_);refine SW.ret ?_;exact End.mk (vH X (dY l)) (h4:=⟨S,h,rfl,by rw[eX]⟩) (h6:=tI _ _ (Nat.le_refl _))
theorem MI (l:List ag)(hl:l.length<=80)(hrow:o8 l):SC Tryz.prog verdict_all.f [ops l] [] 0 16 λ r F=>∃ S,∃ h:dG l S,r= .de [.mp 15,.ptr 14 0]/\F=vH h.X (dY l):=
 (Hu l hl hrow).here (λ _=>false) (λ n h=>by cases h) rfl rfl λ r F _ h1 h2=>⟨SV.fG (λ n hn=>by simpa using hn) _ h1,Hp.eu (λ n hn=>by simpa using hn) h2⟩
set_option maxHeartbeats 4000000 in
theorem Oq (l:List ag)(hl:l.length<=80)(hrow:o8 l):SB Tryz.prog verdict_Of.f [ops l] [] 0 1 λ r F=>r= .mp 0/\F=[(0,xP (dY l))]:=by
 refine verdict_Of.enter (by first|rfl|simp[SV.ok,SV.au]) (by first|rfl|simp[Hp.ok,Ob.ok,SV.ok,SV.au,aB.aj]) (by simp) ?_;dsimp only[verdict_Of.s,Co.M,Co.J,Co.F,Co.E,Co.P,Co.S];refine SW.seq (SW.g0 [0,2,3] Zm af ?_);refine SW.seq (SW.xd ?_);(repeat (first|refine bq.op af (h:=?_)|refine bq.di af (h:=?_)|refine bq.skip (h:=?_)));refine bq.aW (MI l hl hrow) (HSub.nil _) (h:=?_);rintro _ _ ⟨S,h,rfl,rfl⟩;simp only[bU,dx,dy,gA,gR,bY,lk,List.lookup,Nat.reduceBEq,BEq.rfl,beq_self_eq_true,if_true,if_false,reduceIte,Nat.reduceEqDiff,Bool.false_eq_true,Option.isSome_some,Option.isSome_none,Nat.reduceAdd];(repeat (first|refine bq.op af (h:=?_)|refine bq.di af (h:=?_)|refine bq.skip (h:=?_)));refine bq.nil ?_;refine SW.weak (λ n=>if n=0 then 15 else n) (st1:=⟨[(3,.mp 0)],[(0,xP (dY l))],1⟩) ?_ ?_
 .refine⟨Nat.zero_le _,λ n hn=>absurd hn (Nat.not_lt_zero n),?_,?_,?_⟩
  .simp[aL,List.lookup,SV.aC,SV.ok]
  .simp[tS,aa,Ob.aC,Ob.ok,h_,eN]
  .intro a ha b hb e
   simp only[List.map_cons,List.map_nil,List.mem_singleton] at ha hb;rw[ha,hb]
 refine SW.seq (SW.g0 [0,2,3] Zm af ?_);refine SW.ret ?_;exact End.mk [(0,xP (dY l))] (h4:=⟨rfl,rfl⟩) (h6:=ax (by simp) (eN _ _) rfl)
theorem Hv (l:List ag)(hl:l.length<=80)(hrow:o8 l)(k:Nat):aF Tryz.prog verdict_Of.f [ops l] [] k 1 (.mp k) [(k,xP (dY l))]:=by
 have:=SB.new (Oq l hl hrow) k
 simpa[SV.aC,fz,Hp.aC,Ob.aC,h_] using this
end
end Go.Proofs.YtaelhkkjgfobhaaGreat
namespace Go.Proofs.YtaelhkkjgfobhaaGreat
open Go.Sl Go.Proofs
section
attribute [local irreducible] SW RW aF SC ai ak
abbrev Hw (l:List ag):List SV:=List.map SV.d (l.flatMap ag.ds)
end
section
section
variable {t l:List ag} {S U:Sh} (hP:Part t l) (hS:dG t S) (hU:dG l U)
include hP hS hU
end
end
section
theorem DP {l:List ag}(hu:qC l){x:ag}(hx:x∈l):bJ l x.dot=decide (fB l x=0):=by
 unfold bJ;rw[hu.find hx]
section
variable {t l:List ag} (hP:Part t l)
include hP
end
end
end Go.Proofs.YtaelhkkjgfobhaaGreat
