/-
 Who threatens, as a row of one's own.
-/
import Derived.Test.YtaelhkkjgfobhaaGreatU7
set_option linter.unusedSectionVars false
set_option linter.unusedVariables false
set_option linter.unusedSimpArgs false
namespace Go.Proofs.YtaelhkkjgfobhaaGreat
open Go.Sl Go.Proofs Go.Sort
attribute [local irreducible] SW RW aG SC ai ak jQ
theorem AP {L:iX}{c:Nat}(hwf:MM.wf L c)(hL:L.length<1000000000):
  SB Tryz.prog slices_SortedFunc_api_Dot.f [.fn (.func maps_Keys_dot_set_api_Dot_int_1.f) [] [.ptr 0 0],.fn (.func dot_Compare.f) [] []] (gJ 0 1 L c) 2 1
   λ r F=>r= .gs 2 (Dt.sorted (MM.keys L)).length/\F=(2,s_ (Dt.sorted (MM.keys L)) 2)::gJ 0 1 L c:=by
 refine slices_SortedFunc_api_Dot.enter (by simp [SV.ok,SV.av]) (pE _ _ _ _ _ rfl rfl) (by simp) ?_;dsimp only [slices_SortedFunc_api_Dot.s,Co.M,Co.J,Co.F,Co.P,Co.Q,Co.S];refine SW.seq (SW.g0 [0,1,4,5] Zm af ?_);refine SW.seq (SW.vW ?_);(repeat (first | refine bk.op af (h:= ?_) | refine bk.dA af (h:= ?_) | refine bk.skip (h:= ?_)));refine bk.bg (uU hwf hL) (λ _ _ h=>h) (h:= ?_);rintro v F' ⟨rfl,l,hl,rfl⟩;simp only [bP,cR,cU,f_,gD,dm,lk,List.lookup,Nat.reduceBEq,BEq.rfl,beq_self_eq_true,if_true,if_false,reduceIte,Nat.reduceEqDiff,Bool.false_eq_true,Option.isSome_some,Option.isSome_none,Nat.reduceAdd,gJ];(repeat (first | refine bk.op af (h:= ?_) | refine bk.dA af (h:= ?_) | refine bk.skip (h:= ?_)));refine bk.nil ?_;have hlen:l.length=L.length:=by rw [hl.length_eq];simp [MM.keys]
 refine SW.seq (SW.vW ?_);(repeat (first | refine bk.op af (h:= ?_) | refine bk.dA af (h:= ?_) | refine bk.skip (h:= ?_)));rw [<- hlen];refine bk.oy af (oI 2 l (by omega) 3) (h:= ?_);refine bk.nil ?_;refine SW.seq (SW.g0 [0,1,4,5] Zm af ?_);have gy:(Dt.sorted l).length=l.length:=(Dt.sorted_perm l).length_eq;have hse:Dt.sorted l=Dt.sorted (MM.keys L):=Dt.jH ((Dt.sorted_perm l).trans hl) (Dt.fS l);rw [<- hse,<- gy];refine SW.ret ?_;exact End.mk ((2,s_ (Dt.sorted l) 2)::gJ 0 1 L c) (h4:=⟨rfl,rfl⟩) (h6:=by simp [gJ,Hp.ok,Ob.ok,SV.av,SV.ok,SV.aX,bJ])
theorem AQ {L:iX}{c:Nat}(hwf:MM.wf L c)(hL:L.length<1000000000)(k:Nat)(b m:Nat)(K7:b≠m):
  aG Tryz.prog slices_SortedFunc_api_Dot.f [.fn (.func maps_Keys_dot_set_api_Dot_int_1.f) [] [.ptr b 0],.fn (.func dot_Compare.f) [] []] (gJ b m L c) k 1 (.gs k (Dt.sorted (MM.keys L)).length) ((k,s_ (Dt.sorted (MM.keys L)) k)::gJ b m L c):=by
 have h:=SB.mX [b,m] (AP hwf hL) (by simp [K7]) (λ i hi=>qZ L c i (by simpa using hi)) k
 simpa [SV.aR,SV.aC,eP,gJ,Hp.aC,Ob.aC,eM,SV.dF] using h
theorem Gl {L:iX}{c:Nat}(hwf:MM.wf L c)(hL:L.length<1000000000):SB Tryz.prog dot_set_list.f [.mp 0] [(0,.map (aq Dt.cells iv L) c)] 1 2 λ r F=>r= .gs 2 (Dt.sorted (MM.keys L)).length/\F=[(2,s_ (Dt.sorted (MM.keys L)) 2),(0,.map (aq Dt.cells iv L) c)]:=by
 refine dot_set_list.enter rfl (by simp [Hp.ok,Ob.ok,bJ]) (by simp) ?_;dsimp only [dot_set_list.s,Co.M,Co.J,Co.F,Co.C,Co.P,Co.S];refine SW.seq (SW.g0 [0,2] Zm af ?_);refine SW.seq (SW.vW ?_);(repeat (first | refine bk.op af (h:= ?_) | refine bk.dA af (h:= ?_) | refine bk.skip (h:= ?_)));refine bk.oy af (BA L c 0 1) (h:= ?_);refine bk.oy af (AQ hwf hL 2 1 0 (by decide)) (h:= ?_);(repeat (first | refine bk.op af (h:= ?_) | refine bk.dA af (h:= ?_) | refine bk.skip (h:= ?_)));refine bk.nil (SW.ret ?_);exact End.mk [(2,s_ (Dt.sorted (MM.keys L)) 2),(0,.map (aq Dt.cells iv L) c)] (h4:=⟨rfl,rfl⟩) (h6:=by simp [Hp.ok,Ob.ok,SV.av,SV.ok,bJ,SV.aX])
theorem Gm {L:iX}{c:Nat}(hwf:MM.wf L c)(hL:L.length<1000000000)(n k:Nat):aG Tryz.prog dot_set_list.f [.mp n] [(n,.map (aq Dt.cells iv L) c)] k 2 (.gs (k+1) (Dt.sorted (MM.keys L)).length) [(k+1,s_ (Dt.sorted (MM.keys L)) 2),(n,.map (aq Dt.cells iv L) c)]:=by
 have h:=SB.mX [n] (Gl hwf hL) (by simp) (λ i hi=>by cases i with | zero=>simp [aa] | succ i=>simp at hi) k;simp [SV.aR,SV.aC,eP,Hp.aC,Ob.aC,eM,SV.dF] at h;rw [Nat.add_comm 1 k] at h;exact h
theorem Gn (l:List Dt)(hl:l.length<1000000000):SB Tryz.prog dot_Sort.f [bE l] [] 0 3 λ r F=>r= .gs 2 (Dt.set l).length/\F=[(2,s_ (Dt.set l) 2)]:=by
 refine dot_Sort.enter (by simp [SV.ok,SV.av]) rfl (by simp) ?_;dsimp only [dot_Sort.s,Co.M,Co.J,Co.F,Co.P,Co.S];refine SW.seq (SW.g0 [0,2] Zm af ?_);refine SW.seq (SW.vW ?_);(repeat (first | refine bk.op af (h:= ?_) | refine bk.dA af (h:= ?_) | refine bk.skip (h:= ?_)));refine bk.oy af (ze l (by omega) 0) (h:= ?_);refine bk.oy af (Gm (tE l) (Nat.lt_of_le_of_lt (zc l) hl) 0 1) (h:= ?_);(repeat (first | refine bk.op af (h:= ?_) | refine bk.dA af (h:= ?_) | refine bk.skip (h:= ?_)));refine bk.nil (SW.ret ?_);exact End.mk [(2,s_ (Dt.set l) 2)] (h4:=⟨rfl,rfl⟩) (h6:=by simp [Hp.ok,Ob.ok,SV.aX])
theorem Gp (l:List Dt)(hl:l.length<1000000000)(k:Nat):aG Tryz.prog dot_Sort.f [bE l] [] k 3 (.gs (k+2) (Dt.set l).length) [(k+2,s_ (Dt.set l) 2)]:=by
 have h:=SB.mX [] (Gn l hl) (by simp) (λ i hi=>by simp at hi) k;have e:eP [] k 2=k+2:=by simp [eP];omega
 simp only [SV.aR,SV.aC,e,Hp.aC,Ob.aC,SV.dF,List.map_cons,List.map_nil] at h;exact h
set_option maxHeartbeats 4000000 in
theorem C5 (X:Ix)(hX:X.small)(o:ag):SB Tryz.prog revoke_sorted_api_Dot.f [.fn (.func revoke_Index_threats_1.f) [] [.ptr 4 0,.ptr 5 0],.fn (.func revoke_Index_Threats_1.f) [] []] (GR X o) 6 (4+jQ 4)
  λ r F=>r= .gs 6 (Dt.set (X.jb o)).length/\F=(6,s_ (Dt.set (X.jb o)) 6)::GR X o:=by
 have hlen:=tG X hX o;refine revoke_sorted_api_Dot.enter (by simp [SV.av,SV.ok]) (xN X o (Nat.le_refl 6)) (by simp) ?_;dsimp only [revoke_sorted_api_Dot.s,Co.M,Co.J,Co.F,Co.b8,Co.ay,Co.T,Co.K,Co.P,Co.x,Co.W,Co.S];refine SW.seq (SW.g0 [0,1,3,4,5,6,7,8] Zm af ?_);refine SW.seq (SW.g0 [0,1,3,4,5,6,7,8] Zm af ?_);refine SW.xh 7 31 37 2 (by rfl) ?_;refine SW.seq (SW.seq (SW.g0 [0,1,3,4,5,6,7,8] Zm af ?_));refine SW.block (SW.rQ (nk:=jQ 4) [5,3] [.ptr 7 0,.ptr 6 0] rfl ⟨rfl,rfl,trivial⟩ λ ca cb hca hcb=> ?_)
 let s0:CQ:=⟨[],8⟩
 have hy:=M9 (y:=9) (bx:=7) (bf:=6) (by decide) (by decide) (by decide) hca hcb;have hF0:(ia 9 7 6 ca cb s0).ok (λ n=>decide (n<10))=true:=by simp [ia,s0,Hp.ok,Ob.ok,SV.av,SV.ok]
 have hO:o8 (TG X o 4 5) (ia 9 7 6 ca cb) s0 10:=by
  refine ⟨by simp,λ n hn=> ?_,λ n hn=> ?_,xN X o (by omega),hF0⟩
  .simp only [TG,List.map_cons,List.map_nil,List.mem_cons,List.not_mem_nil,or_false] at hn;omega
  .simp only [TG,List.map_cons,List.map_nil,List.mem_cons,List.not_mem_nil,or_false] at hn
   rcases hn with rfl | rfl | rfl | rfl | rfl | rfl <;> simp [ia,s0,aa,bt]
 have h0:TI X o (ia 9 7 6 ca cb) M8 (M7 9 7 6) s0 10 4 5 10 (X.jb o) s0 10:=⟨⟨[],.nil,rfl⟩,⟨⟨by decide,by decide,by decide⟩,by show 0+_<=_;omega⟩,hO,Nat.le_refl _,by decide,λ n hn=> .inl hn⟩;have hsb:=II (y:=9) (bx:=4) (bo:=5) (k:=10) X hX o s0 hy h0;have hsubF:HSub (TG X o 4 5++ia 9 7 6 ca cb s0) ((9,.pJ 17 [5,3] [.ptr 7 0,.ptr 6 0] [8] ca cb .ready none)::(7,.box 31 [.gs 8 0])::(8,.arr 37 2 0 [])::(7,.box 31 [.d .aN])::(6,.box 123 [.fn (.func revoke_Index_Threats_1.f) [] []])::GR X o):=by
  intro n ob hn
  match n with
  | 0 | 1 | 2 | 3 | 4 | 5 | 6 | 7 | 8 | 9=>simpa [TG,ia,s0,aa] using hn
  | n+10=>simp [TG,ia,s0,aa,bt] at hn
 have hsc:=(hsb.here (λ n=>decide (n<10)) (λ n hn=> ?_) (by simp [SV.av,SV.ok]) (F4 (xN X o (by omega)) hF0) ?_).frame hsubF
 .refine hsc.mono ?_
  rintro r F' ⟨F1,⟨rfl,s',hTI,rfl⟩,rfl⟩;obtain ⟨xs,hon,hxs⟩:=hTI.h1;rw [List.append_nil] at hxs;have hl':=OX hon;obtain ⟨L,rn⟩:=s';have hL:L=X.jb o:=by rw [hxs];simpa [s0] using hl'
  obtain ⟨⟨b1,b2,b3⟩,_⟩:=hTI.h2;dsimp only at b1 b2 b3;have hno:∀ n,n∈(TG X o 4 5).map (·.1)->n≠rn:=λ n hn e=>by
   have:=hTI.own.no n hn;rw [e] at this;simp [ia,aa,b1,b2,b3] at this
  have b4:=hno 4 (by simp);have b5:=hno 5 (by simp);have c0:=hno 0 (by simp);have c1:=hno 1 (by simp);have c2:=hno 2 (by simp);have c3:=hno 3 (by simp);rw [<- hL];have hlk:=iy (ro:=false) (F':=TG X o 4 5++ia 9 7 6 ca cb ⟨L,rn⟩) hsubF (λ h=>by cases h);generalize bP false _ _ _=G at hlk;have hG:∀ n ob,lk (TG X o 4 5++ia 9 7 6 ca cb ⟨L,rn⟩) n=some ob->lk G n=some ob:=λ n ob h=>by
   rw [hlk,eO (.inr (by rw [h];simp)),h]
  refine ⟨none,hG 9 _ (by simp [TG,ia,aa,mg]),?_⟩;have hrn:rn<10+jQ 4:=by
   have:=(Hp.eZ hTI.own.okF (show lk (ia 9 7 6 ca cb ⟨L,rn⟩) rn=some (.arr 37 2 L.length ((L.flatMap Dt.ds).map .d)) by simp [ia,aa,b1,b2,b3])).1
   simpa using this
  refine SW.weak (λ n=>if n=8 then rn else n) (st1:=⟨[(5,.ptr 7 0)],(7,.box 31 [.gs 8 L.length])::(8,.arr 37 2 L.length ((L.flatMap Dt.ds).map .d))::GR X o,10⟩) ?_ ?_
  .have q7:=hG 7 (.box 31 [.gs rn L.length]) (by simp [TG,ia,aa])
   have q8:=hG rn (.arr 37 2 L.length ((L.flatMap Dt.ds).map .d)) (by simp [TG,ia,aa,b1,b2,b3,b4.symm,b5.symm,c0.symm,c1.symm,c2.symm,c3.symm]);have q4:=hG 4 (.box 27 [.ptr 0 0]) (by simp [TG,aa]);have q5:=hG 5 (.box 43 o.cells) (by simp [TG,aa]);have q0:=hG 0 (.box 110 [.any,.mp 1,.mp 2,.mp 3]) (by simp [TG,aa]);have q1:=hG 1 (.map (aq Dt.cells ov X.ops) X.co) (by simp [TG,aa]);have q2:=hG 2 (.map (aq Dt.cells dn X.ch) X.cc) (by simp [TG,aa]);have q3:=hG 3 (.map (aq Dt.cells dn X.lK) X.cf) (by simp [TG,aa]);refine ⟨by show 6<=10;omega,λ n hn=>if_neg (by omega),?_,?_,?_⟩
   .simp [aL,List.lookup,SV.aC,SV.ok]
   .simp [s7,di,Ob.aC,SV.aR,SV.aC,SV.dF,SV.aX,Ob.ok,SV.av,SV.ok,q7,q8,q4,q5,q0,q1,q2,q3,b1,ag.aA,ag.aj,cg,bB,gL,fq]
   .intro a ha b hb e
    simp only [GR,TG,List.map_cons,List.map_nil,List.mem_cons,List.not_mem_nil,or_false] at ha hb;rcases ha with rfl | rfl | rfl | rfl | rfl | rfl | rfl | rfl <;> rcases hb with rfl | rfl | rfl | rfl | rfl | rfl | rfl | rfl <;> simp at e <;> first | rfl | omega
  .refine SW.tw 8 (L.flatMap Dt.ds) rfl rfl ?_
   simp only [lR,SV.iw,List.map_cons,List.map_nil,if_true,if_false,reduceIte,dm,Nat.reduceEqDiff,B_,GR,TG,Ix.h0,Ob.iw,SV.jM];have e0:∀ m:MM Dt ag,(aq Dt.cells ov m).map (λ e=>(e.1,e.2.1,e.2.2.iw 8 L.length (L.flatMap Dt.ds)))=aq Dt.cells ov m:=λ m=>uE (q:=λ _=>false) rfl (bB _ _)
   have e1:∀ m:MM Dt (List Dt),(aq Dt.cells dn m).map (λ e=>(e.1,e.2.1,e.2.2.iw 8 L.length (L.flatMap Dt.ds)))=aq Dt.cells dn m:=λ m=>uE (q:=λ _=>false) rfl (fq _ _)
   have e2:SV.jM 8 L.length (L.flatMap Dt.ds) o.cells=o.cells:=SV.ir (q:=λ _=>false) rfl _ (ag.aj _ _);simp only [e0,e1,e2];have hs:=Gp L (by rw [hL];omega);refine SW.seq (SW.g1 [0,1,3,4,5,6,7,8] Zm af hs ?_);refine SW.weak (λ n=>if n=6 then 12 else n) (st1:=⟨[(4,.gs 6 (Dt.set L).length)],(6,s_ (Dt.set L) 6)::GR X o,10+jQ 4⟩) ?_ (SW.ret ?_)
   .refine ⟨by show 6<=10+jQ 4;omega,λ n hn=>if_neg (by omega),?_,?_,?_⟩
    .simp [aL,List.lookup,SV.aC,SV.ok]
     omega
    .simp [s7,aa,di,Ob.aC,SV.aR,SV.aC,SV.dF,SV.aX,Ob.ok,SV.av,SV.ok,ag.aA,ag.aj,cg,bB,gL,fq]
     omega
    .intro a ha b hb e
     simp only [GR,TG,List.map_cons,List.map_nil,List.mem_cons,List.not_mem_nil,or_false] at ha hb;rcases ha with rfl | rfl | rfl | rfl | rfl | rfl | rfl <;> rcases hb with rfl | rfl | rfl | rfl | rfl | rfl | rfl <;> simp at e <;> first | rfl | omega
   exact End.mk ((6,s_ (Dt.set L) 6)::GR X o) (h4:=⟨rfl,rfl⟩) (h5:=by simp [eA,SV.ok];omega) (h6:=ax (by simp;omega) (SV.aX _) (xN X o (by omega))) (h7:=by show 6+(4+jQ 4)<=10+jQ 4;omega)
 .match n,hn with
  | 0,_ | 1,_ | 2,_ | 3,_ | 4,_ | 5,_ | 6,_ | 7,_ | 8,_ | 9,_=>simp [TG,ia,s0,aa]
  | n +10,h=>
    have:n+10<10:=by simpa using h
    omega
 .rintro r F' _ h1 h2
  refine ⟨SV.fh (λ n hn=> ?_) _ h1,Hp.dV (λ n hn=> ?_) h2⟩ <;> (simp at hn ⊢;omega)
theorem C6 (X:Ix)(hX:X.small)(o:ag)(k:Nat):aG Tryz.prog revoke_sorted_api_Dot.f [.fn (.func revoke_Index_threats_1.f) [] [.ptr 7 0,.ptr 8 0],.fn (.func revoke_Index_Threats_1.f) [] []] (TG X o 7 8) k (4+jQ 4) (.gs k (Dt.set (X.jb o)).length) ((k,s_ (Dt.set (X.jb o)) k)::TG X o 7 8):=by
 have:=SB.mX [0,1,2,3,7,8] (C5 X hX o) (by decide) (λ i hi=>by
  match i,hi with
  | 0,_ | 1,_ | 2,_ | 3,_ | 4,_ | 5,_=>simp [aa]) k
 simpa [SV.aR,SV.aC,eP,ag.aA,Hp.aC,Ob.aC,cg,gL,SV.dF] using this
set_option maxHeartbeats 4000000 in
theorem Gq (X:Ix)(hX:X.small)(d:Dt)(hh:MM.has X.ops d=true):SB Tryz.prog revoke_Index_Threats.f [.ptr 0 0,.agg d.cells] X.h0 4 6 λ r F=>r= .cZ [.gs 9 (X.jT d).length,i64 0]/\F=(9,s_ (X.jT d) 9)::X.h0:=by
 refine revoke_Index_Threats.enter (by simp [SV.av,SV.ok]) (X.xM (Nat.le_refl 4)) (by simp) ?_;dsimp only [revoke_Index_Threats.s,Co.M,Co.J,Co.F,Co.C,Co.Z,Co.bD,Co.T,Co.K,Co.E,Co.Q,Co.x,Co.Y,Co.D,Co.A,Co.S];have hl:=F5 X hX d;have hT:X.jT d=Dt.set (X.jb (X.op d)):=by unfold Ix.jT;rw [if_pos hh]
 refine SW.seq (SW.g0 [0,1,3,4,5,7,15] Zm af ?_);refine SW.seq (SW.seq ?_);have hlv:lV X d= .cZ [.d (.int .i64 (((X.pF d).length:Int) - 1)),i64 0]:=by unfold lV;rw [hh];rfl
 rw [hlv] at hl;refine SW.g1 [0,1,3,4,5,7,15] Zm af hl ?_;refine SW.seq (SW.g0 [0,1,3,4,5,7,15] Zm af ?_);refine SW.ah rfl (SW.skip ?_);refine SW.seq ?_;obtain ⟨o,ho⟩:∃ o,(MM.get X.ops d).getD ag.zero=o:=⟨_,rfl⟩;have hto:X.op d=o:=ho;have hthr:aG Tryz.prog revoke_Index_threats.f [.ptr 0 0,.agg o.cells] X.h0 7 2 (.fn (.func revoke_Index_threats_1.f) [] [.ptr 7 0,.ptr 8 0]) ((8,.box 43 o.cells)::(7,.box 27 [.ptr 0 0])::X.h0):=CS X o 7;have hs:=C6 X hX o;rw [hT,hto];generalize Dt.set (X.jb o)=R at hs;refine SW.g2 [0,1,3,4,5,7,15] Zm ho hthr hs ?_;refine SW.ret ?_;exact End.mk ((9,s_ R 9)::X.h0) (h4:=⟨rfl,rfl⟩) (h6:=ax (by simp) (SV.aX _) (X.xM (by omega))) (h7:=by show 4+6<=7+2+(4+jQ 4);omega)
end Go.Proofs.YtaelhkkjgfobhaaGreat
namespace Go.Proofs.YtaelhkkjgfobhaaGreat
open Go.Sl Go.Proofs
section
section
variable (jb:Dt->List Dt)
def GU:Nat->Dt->Bool
 | 0,_=>true
 | n+1,d=>(jb d).all λ t=> !GU n t
def nZ (K:KM)(d:Dt):List Dt:=(jb d).filter λ t=>decide (K.get t=2)
def zF (K:KM)(d:Dt):KM:=if (nZ jb (K.put d 2) d).length>0 then (K.put d 2).put d 1 else K.put d 2
def jd (ds:List Dt):KM:=ds.foldl (λ K d=>K.put d 0) ⟨[],0⟩
def I1 (K:KM)(xs:List Dt):KM:=xs.foldl (zF jb) K
theorem va (ds:List Dt)(d:Dt):jd (ds++[d])=(jd ds).put d 0:=by unfold jd;rw [List.foldl_append];rfl
theorem zG (K:KM)(xs:List Dt)(d:Dt):I1 jb K (xs++[d])=zF jb (I1 jb K xs) d:=by unfold I1;rw [List.foldl_append];rfl
variable {jb}
theorem zH {lv:Dt->Nat}(hlv:∀ d t,t∈jb d->lv t<lv d):∀ (n m:Nat) (d:Dt),lv d<n->lv d<m->GU jb n d=GU jb m d
 | 0,_,_,h,_=>absurd h (Nat.not_lt_zero _)
 | _,0,_,_,h=>absurd h (Nat.not_lt_zero _)
 | n +1,m+1,d,h1,h2=>by
  simp only [GU];rw [Bool.eq_iff_iff,List.all_eq_true,List.all_eq_true];have key:∀ t,t∈jb d->GU jb n t=GU jb m t:=λ t ht=>by
   have:=hlv d t ht;exact zH hlv n m t (by omega) (by omega)
  exact ⟨λ h t ht=>by rw [<- key t ht];exact h t ht,λ h t ht=>by rw [key t ht];exact h t ht⟩
structure VI (gv:Dt->Bool)(ds xs:List Dt)(K:KM):Prop where
 wf:MM.wf K.m K.c
 keys:∀ d,MM.has K.m d=true↔d∈ds
 get:∀ d,K.get d=if d∈xs then (if gv d then 2 else 1) else 0
theorem KM.mZ (K:KM)(d:Dt)(n:Nat)(e:Dt):MM.has (K.put d n).m e=(decide (e=d) || MM.has K.m e):=MM.mZ
theorem KM.gd {K:KM}(h:MM.wf K.m K.c)(d:Dt)(n:Nat):MM.wf (K.put d n).m (K.put d n).c:=MM.gd h d n
theorem Gr:∀ n (ds:List Dt),ds.length=n->MM.wf (jd ds).m (jd ds).c/\(∀ d,MM.has (jd ds).m d=true↔d∈ds)/\∀ d,(jd ds).get d=0:=by
 intro n
 induction n with
 | zero=>
  intro ds h;rw [List.eq_nil_of_length_eq_zero h];exact ⟨MM.kL,λ d=>by simp [jd,MM.has,MM.get],λ d=>by simp [jd,KM.get,MM.get]⟩
 | succ n ih=>
  intro ds h;have hne:ds≠[]:=λ e=>by rw [e] at h;cases h
  obtain ⟨t,d,rfl⟩:∃ t d,ds=t++[d]:=⟨ds.dropLast,ds.getLast hne,(List.dropLast_concat_getLast hne).symm⟩;obtain ⟨h1,h2,h3⟩:=ih t (by simp at h;exact h);rw [va];refine ⟨KM.gd h1 _ _,λ e=> ?_,λ e=> ?_⟩
  .rw [KM.mZ,Bool.or_eq_true,decide_eq_true_eq,h2,List.mem_append,List.mem_singleton,or_comm]
  .rw [KM.dJ]
   split
   .rfl
   .exact h3 e
theorem VI.zero (gv:Dt->Bool)(ds:List Dt):VI gv ds [] (jd ds):=by
 obtain ⟨h1,h2,h3⟩:=Gr _ ds rfl;exact ⟨h1,h2,λ d=>by rw [h3,if_neg (by simp)]⟩
theorem VI.step {gv:Dt->Bool}{ds xs:List Dt}{K:KM}(h:VI gv ds xs K){x:Dt}(hx:x∈ds)(ht:∀ t,t∈jb x->t∈xs/\t≠x)(hg:gv x=(jb x).all λ t=> !gv t):VI gv ds (xs++[x]) (zF jb K x):=by
 have hp:∀ t,t∈jb x->((K.put x 2).get t=2↔gv t=true):=λ t htt=>by
  obtain ⟨h1,h2⟩:=ht t htt;rw [KM.dJ,if_neg h2,h.get,if_pos h1];cases gv t <;> simp
 have hh:(nZ jb (K.put x 2) x).length>0↔gv x=false:=by
  rw [hg,List.all_eq_false];unfold nZ;rw [gt_iff_lt,List.length_pos_iff_exists_mem];simp only [List.mem_filter,decide_eq_true_eq];constructor
  .rintro ⟨t,h1,h2⟩
   exact ⟨t,h1,by simp [(hp t h1).1 h2]⟩
  .rintro ⟨t,h1,h2⟩
   exact ⟨t,h1,(hp t h1).2 (by simpa using h2)⟩
 have hk:∀ d,d=x\/d∈ds↔d∈ds:=λ d=>⟨λ h=>h.elim (λ e=>by rw [e];exact hx) id,.inr⟩
 unfold zF
 by_cases hc:(nZ jb (K.put x 2) x).length>0
 .have hgf:=hh.1 hc
  rw [if_pos hc];refine ⟨KM.gd (KM.gd h.wf _ _) _ _,λ d=> ?_,λ d=> ?_⟩
  .rw [KM.mZ,KM.mZ,Bool.or_eq_true,Bool.or_eq_true,decide_eq_true_eq,h.keys,hk,hk]
  .rw [KM.dJ,KM.dJ,h.get]
   by_cases e:d=x
   .subst e;simp [hgf]
   .simp [e]
 .have hgf:gv x=true:=by
   cases hgx:gv x with
   | true=>rfl
   | false=>exact absurd (hh.2 hgx) hc
  rw [if_neg hc];refine ⟨KM.gd h.wf _ _,λ d=> ?_,λ d=> ?_⟩
  .rw [KM.mZ,Bool.or_eq_true,decide_eq_true_eq,h.keys,hk]
  .rw [KM.dJ,h.get]
   by_cases e:d=x
   .subst e;simp [hgf]
   .simp [e]
theorem Gs {gv:Dt->Bool}{ds L:List Dt}(hds:∀ d,d∈L->d∈ds)(C7:∀ A x B,L=A++x::B->∀ t,t∈jb x->t∈A/\t≠x)(hg:∀ d,gv d=(jb d).all λ t=> !gv t):∀ i,i<=L.length->VI gv ds (L.take i) (I1 jb (jd ds) (L.take i))
 | 0,_=>VI.zero gv ds
 | i +1,hi=>by
  obtain ⟨x,hx⟩:=br (show i<L.length by omega);have hxm:=List.mem_of_getElem? hx;have e:=dG hx;have he:L=L.take i++x::L.drop (i+1):=by
   have:L[i]=x:=by rw [List.getElem?_eq_getElem (by omega)] at hx;exact Option.some.inj hx
   rw [<- this,<- List.drop_eq_getElem_cons,List.take_append_drop]
  rw [e,zG];exact (Gs hds C7 hg i (by omega)).step (hds x hxm) (C7 _ _ _ he) (hg x)
end
theorem mE {l:List ag}{d t:Dt}:t∈dS l d↔bW l d=true/\bW l t=true/\zA l d t=true:=by
 unfold dS
 split
 .rename_i h
  rw [List.mem_filter,jD];exact ⟨λ h2=>⟨h,h2⟩,λ h2=>h2.2⟩
 .rename_i h
  exact ⟨λ h2=>(by cases h2),λ h2=>absurd h2.1 h⟩
theorem kg {l:List ag}{d:Dt}(h:bW l d=true):∃ o,aF l d=some o/\eW l o=0/\l5 l d=o/\o.dot=d:=by
 unfold bW at h;cases hf:aF l d with
 | none=>rw [hf] at h;cases h
 | some o=>
  rw [hf] at h;exact ⟨o,rfl,of_decide_eq_true h,bz hf,dN hf⟩
theorem sB {l:List ag}{d t:Dt}(h:t∈dS l d):g_ l t<g_ l d:=by
 obtain ⟨h1,h2,h3⟩:=mE.1 h;obtain ⟨o,_,ho,e1,_⟩:=kg h1;obtain ⟨r,_,hr,e2,_⟩:=kg h2;unfold zA rz at h3;rw [e1,e2] at h3;simp only [Bool.and_eq_true,decide_eq_true_eq] at h3;unfold g_;rw [e1,e2];exact (BJ ho hr h3.1 h3.2.1).1
noncomputable def C8 (l:List ag)(d:Dt):Bool:=GU (dS l) (g_ l d+1) d
theorem vb (l:List ag)(d:Dt):C8 l d=(dS l d).all λ t=> !C8 l t:=by
 unfold C8;show ((dS l d).all λ t=> !GU (dS l) (g_ l d) t)=_;rw [Bool.eq_iff_iff,List.all_eq_true,List.all_eq_true];have key:∀ t,t∈dS l d->GU (dS l) (g_ l d) t=GU (dS l) (g_ l t+1) t:=λ t ht=>
  zH (lv:=g_ l) (λ _ _ h=>sB h) _ _ t (sB ht) (Nat.lt_succ_self _)
 exact ⟨λ h t ht=>by rw [<- key t ht];exact h t ht,λ h t ht=>by rw [key t ht];exact h t ht⟩
noncomputable def jg (l:List ag)(d:Dt):Nat:=if bW l d then (if C8 l d then 2 else 1) else 0
theorem zI {l:List ag}{j:Nat}{L:List Dt}(h:(lX l)[j]? =some L):L=(jW l).filter λ v=>decide (g_ l v=j):=by
  unfold lX at h;rw [List.getElem?_map] at h;obtain ⟨i,hi,rfl⟩:=Option.map_eq_some_iff.1 h;rw [List.getElem?_range] at hi
  . injection hi with hi
    rw [hi]
  . by_cases hj:j<wL (g_ l) (jW l)
    . exact hj
    . rw [List.getElem?_eq_none (by simpa using hj)] at hi
      cases hi
theorem oQ {l:List ag}{d:Dt}:d∈(lX l).flatten↔bW l d=true:=by
 rw [List.mem_flatten,<- jD];constructor
 .rintro ⟨L,hL,hd⟩
  obtain ⟨j,hj⟩:=List.mem_iff_getElem?.1 hL;rw [zI hj] at hd;exact (List.mem_filter.1 hd).1
 .intro hd
  refine ⟨_,List.mem_map.2 ⟨g_ l d,List.mem_range.2 (pG hd),rfl⟩,List.mem_filter.2 ⟨hd,by simp⟩⟩
theorem oR {c:Dt->Nat}:∀ (R:List (List Dt)) (b:Nat),(∀ j L,R[j]? =some L->∀ d,d∈L->c d=b+j)->∀ A x B,R.flatten=A++x::B->∀ t,t∈R.flatten->c t<c x->t∈A
 | [],_,_,A,x,B,h,t,ht,_=>by simp at ht
 | L ::R,b,hR,A,x,B,h,t,ht,hlt=>by
  rw [List.flatten_cons] at h ht;have h0:=hR 0 L rfl;have hR':∀ j M,R[j]? =some M->∀ d,d∈M->c d=(b+1)+j:=λ j M hj d hd=>by
   have:=hR (j+1) M hj d hd;omega
  have hge:∀ d,d∈R.flatten->b<c d:=λ d hd=>by
   obtain ⟨M,hM,hd⟩:=List.mem_flatten.1 hd;obtain ⟨j,hj⟩:=List.mem_iff_getElem?.1 hM;have:=hR' j M hj d hd;omega
  rcases List.append_eq_append_iff.1 h with ⟨C,e1,e2⟩ | ⟨C,e1,e2⟩
  ·
   rw [e1];rcases List.mem_append.1 ht with ht | ht
   .exact List.mem_append.2 (.inl ht)
   .exact List.mem_append.2 (.inr (oR R (b+1) hR' C x B e2 t ht hlt))
  ·
   have hx:x∈L\/(C=[]/\x∈R.flatten):=by
    cases C with
    | nil=>exact .inr ⟨rfl,by rw [List.nil_append] at e2;rw [<- e2];simp⟩
    | cons y C=>
     rw [List.cons_append] at e2;injection e2 with e3 e4;exact .inl (by rw [e1,e3];simp)
   rcases hx with hx | ⟨hC,hx⟩
   .have hcx:=h0 x hx
    rcases List.mem_append.1 ht with ht | ht
    .have:=h0 t ht;omega
    .have:=hge t ht;omega
   .subst hC
    rw [List.append_nil] at e1;rw [List.nil_append] at e2;rw [<- e1];rcases List.mem_append.1 ht with ht | ht
    .exact ht
    .have:=oR R (b+1) hR' [] x B (by rw [<- e2];rfl) t ht hlt
     cases this
noncomputable def eN (l:List ag):KM:=I1 (dS l) (jd (xR l)) (lX l).flatten
theorem pI (l:List ag):VI (C8 l) (xR l) (lX l).flatten (eN l):=by
 have:=Gs (jb:=dS l) (gv:=C8 l) (ds:=xR l) (L:=(lX l).flatten) (λ d hd=>Gj (oQ.1 hd)) (λ A x B e t ht=>by
  have hlt:=sB ht;refine ⟨oR (c:=g_ l) (lX l) 0 (λ j L hj d hd=> ?_) A x B e t (oQ.2 (AN ht)) hlt,λ e=>by rw [e] at hlt;omega⟩;rw [zI hj] at hd;have:=of_decide_eq_true (List.mem_filter.1 hd).2;omega) (vb l) _ (Nat.le_refl _)
 rw [List.take_length] at this;exact this
theorem gQ (l:List ag)(d:Dt):(eN l).get d=jg l d:=by
 rw [(pI l).get];unfold jg
 by_cases h:bW l d=true
 .rw [if_pos (oQ.2 h),if_pos h]
 .rw [if_neg (λ h2=>h (oQ.1 h2)),if_neg h]
end
section
attribute [local irreducible] SW RW aG SC ai ak jQ tH
abbrev tJ (K:KM):Ob:= .map (aq Dt.cells kv K.m) K.c
theorem Gt (K:KM)(x:Dt):SB Tryz.prog verdict_hits_1.f [.agg x.cells,.ptr 1 0] [(1,.box 76 [.mp 0]),(0,tJ K)] 2 0 λ r F=>r=bl (!decide (K.get x=2))/\F=[(1,.box 76 [.mp 0]),(0,tJ K)]:=by
 refine verdict_hits_1.enter (by simp [SV.av,SV.ok,Dt.aj]) (by simp [Hp.ok,Ob.ok,SV.av,SV.ok,dO]) (by simp) ?_;dsimp only [verdict_hits_1.s,Co.M,Co.J,Co.F,Co.B,Co.b8,Co.T,Co.K,Co.x,Co.S];have hlk:=pH K.m x;change _=SV.d (.int .u8 ((K.get x:Nat):Int)) at hlk;have g2:(((K.get x:Nat):Int) != 2)= !decide (K.get x=2):=by
  by_cases h:K.get x=2
  .rw [h];rfl
  .have:((K.get x:Nat):Int)≠2:=by omega
   simp [h,this]
 refine SW.seq (SW.g0 [0,1,2,3] Zm af ?_);refine SW.seq (SW.g0 [0,1,2,3] Zm (Zq hlk g2) ?_);refine SW.ret ?_;exact End.mk [(1,.box 76 [.mp 0]),(0,tJ K)] (h4:=⟨rfl,rfl⟩) (h6:=by simp [Hp.ok,Ob.ok,SV.av,SV.ok,dO])
abbrev Nd (K:KM):Hp:=[(5,.box 76 [.mp 4]),(4,tJ K)]
theorem Gu (K:KM)(x:Dt)(k:Nat):aG Tryz.prog verdict_hits_1.f [.agg x.cells,.ptr 5 0] (Nd K) k 0 (bl (!decide (K.get x=2))) (Nd K):=by
 have:=SB.mX [4,5] (Gt K x) (by decide) (λ i hi=>by
  match i,hi with
  | 0,_ | 1,_=>simp [aa]) k
 simpa [SV.aR,SV.aC,eP,Dt.aA,Hp.aC,Ob.aC,gP] using this
theorem I2 (K:KM)(B:Nat):u9 (σ:=Unit) Tryz.prog verdict_hits_1.f [] [.ptr 5 0] (λ _=>Nd K) (λ _ x=>((),!decide (K.get x=2))) 0 (λ _ _=>True) (λ _=>True) B where
 nd s:=by simp
 nm s x:=rfl
 nx _ _ _ _ _ _:=trivial
 ok s x q h:=h
 call i s x k _ _ _ _:=Gu K x k
 a1 s q h:=by
  simp only [Hp.ok,List.all_cons,Bool.and_eq_true] at h;exact ⟨rfl,by simp [SV.av,SV.ok,h.1.1]⟩
theorem rA (p:Dt->Bool):∀ L:List Dt,e_ (λ (_:Unit) x=>((),!p x)) () L=(L.filter p,())
 | []=>rfl
 | x::L=>by
  simp only [e_];rw [rA p L];cases h:p x <;> simp [h]
theorem AR (K:KM)(L:List Dt)(hL:L.length<1000000000):aG Tryz.prog slices_DeleteFunc_Lapi_Dot_api_Dot.f [.gs 12 L.length,.fn (.func verdict_hits_1.f) [] [.ptr 5 0]] ((12,s_ L 12)::Nd K) 13 (L.length*0+L.length*(0+1))
  (.gs 12 (L.filter λ t=>decide (K.get t=2)).length) ((12,s_ (L.filter λ t=>decide (K.get t=2)) 12)::Nd K):=by
 have:=AM (I2 K L.length) L () hL (Nat.le_refl _) (λ _ _=>trivial) trivial 12 13 (by decide) ⟨rfl,by simp [Hp.ok,Ob.ok,SV.av,SV.ok,dO],by simp [aa,bt]⟩ (by simp [Hp.ok,Ob.ok,SV.av,SV.ok,dO,aa]);rw [rA (λ t=>decide (K.get t=2)) L] at this;exact this
theorem I3 (X:Ix)(hX:X.small)(d:Dt)(hh:MM.has X.ops d=true)(k:Nat):aG Tryz.prog revoke_Index_Threats.f [.ptr 0 0,.agg d.cells] X.h0 k 6 (.cZ [.gs (k+5) (X.jT d).length,i64 0]) ((k+5,s_ (X.jT d) 9)::X.h0):=by
 have:=SB.mX [0,1,2,3] (Gq X hX d hh) (by decide) X.M4 k;simp [SV.aR,SV.aC,eP,Dt.aA,Hp.aC,Ob.aC,cg,gL,SV.dF] at this;rw [Nat.add_comm 5 k] at this;exact this
set_option maxHeartbeats 4000000 in
theorem BP (X:Ix)(hX:X.small)(K:KM)(d:Dt)(hh:MM.has X.ops d=true)(hT:(X.jT d).length<1000000000):SB Tryz.prog verdict_hits.f [.ptr 0 0,.mp 4,.agg d.cells] ((4,tJ K)::X.h0) 5 8
  λ r F=>r= .gs 12 (nZ X.jT K d).length/\F=(12,s_ (nZ X.jT K d) 12)::(4,tJ K)::X.h0:=by
 refine verdict_hits.enter (by simp [SV.av,SV.ok,Dt.aj]) (ax (by simp) (dO _ _) (X.xM (by decide))) (by simp) ?_;dsimp only [verdict_hits.s,Co.M,Co.J,Co.F,Co.K,Co.E,Co.Q,Co.x,Co.S];have cT:aG Tryz.prog revoke_Index_Threats.f [.ptr 0 0,.agg d.cells] X.h0 7 6 (.cZ [.gs 12 (X.jT d).length,i64 0]) ((12,s_ (X.jT d) 9)::X.h0):=I3 X hX d hh 7;have cD:=AR K (X.jT d) hT;unfold nZ;generalize X.jT d=L at cT cD hT ⊢;refine SW.seq (SW.g0 [0,1,2,4,5,6,7] Zm af ?_);refine SW.seq (SW.g1 [0,1,2,4,5,6,7] Zm af cT ?_);refine SW.seq (SW.g1 [0,1,2,4,5,6,7] Zm af cD ?_);refine SW.ret ?_;generalize (L.filter λ t=>decide (K.get t=2))=R;exact End.mk ((12,s_ R 12)::(4,tJ K)::X.h0) (h4:=⟨rfl,rfl⟩) (h6:=ax (by simp) (SV.aX _) (ax (by simp) (dO _ _) (X.xM (by decide))))
end
section
attribute [local irreducible] SW RW aG SC ai ak jQ tH
abbrev vH (X:Ix)(K:KM):Hp:=(15,tJ K)::X.JR
theorem sR (X:Ix)(K:KM){k:Nat}(hk:16<=k):(vH X K).ok (λ n=>decide (n<k))=true:=
 ax (by simp;omega) (dO _ _) (ax (by simp;omega) (by simp [Ob.ok,SV.av,SV.ok];omega) (ax (by simp;omega) (bB _ _) (ax (by simp;omega) (fq _ _) (ax (by simp;omega) (fq _ _) rfl))))
theorem Gv (X:Ix)(K:KM):∀ y,y∈vH X K->lk (vH X K) y.1=some y.2:=λ y hy=>by
 simp only [List.mem_cons,List.not_mem_nil,or_false] at hy;rcases hy with rfl | rfl | rfl | rfl | rfl <;> rfl
theorem LD (X:Ix)(K:KM)(o:Ob):∀ y,y∈vH X K->lk ((16,o)::vH X K) y.1=some y.2:=λ y hy=>by
 simp only [List.mem_cons,List.not_mem_nil,or_false] at hy;rcases hy with rfl | rfl | rfl | rfl | rfl <;> rfl
theorem I4 (X:Ix)(hX:X.small)(K:KM)(d:Dt)(hh:MM.has X.ops d=true)(hT:(X.jT d).length<1000000000)(k:Nat):aG Tryz.prog verdict_hits.f [.ptr 14 0,.mp 15,.agg d.cells] (vH X K) k 8 (.gs (k+7) (nZ X.jT K d).length) ((k+7,s_ (nZ X.jT K d) 12)::vH X K):=by
 have:=SB.mX [14,11,12,13,15] (BP X hX K d hh hT) (by decide) (λ i hi=>by
  match i,hi with
  | 0,_ | 1,_ | 2,_ | 3,_ | 4,_=>simp [aa]) k
 generalize nZ X.jT K d=R at this ⊢;simp [SV.aR,SV.aC,eP,Dt.aA,Hp.aC,Ob.aC,cg,gL,gP,SV.dF] at this;rw [Nat.add_comm 7 k] at this;exact this
theorem Gw {X:Ix}(hX:X.small)(h9:∀ d,X.nY d<=9)(k:Nat):aG Tryz.prog revoke_Index_Levels.f [.ptr 14 0] X.JR k wN (gM X.lX) X.JR:=Ix.N1 (Gf X hX h9) (λ k=>by simp [SV.aR,SV.aC,eP]) (λ k=>by simp [gM,SV.aC]) k
theorem Gx (l:List ag):(jW l).length<=l.length:=by
 unfold jW;refine Nat.le_trans (Dt.AI _) ?_;unfold zz;rw [List.length_map];exact List.length_filter_le _ _
theorem jq {R:List (List Dt)}{j:Nat}{L:List Dt}(h:R[j]? =some L):(R.take (j+1)).flatten=(R.take j).flatten++L:=by rw [dG h,List.flatten_append];simp
set_option maxHeartbeats 16000000 in
theorem Gy (l:List ag)(hl:l.length<=80)(hrow:oN l):SB Tryz.prog verdict_all.f [ops l] [] 0 16 λ r F=>∃ S,∃ h:dh l S,r= .cZ [.mp 15,.ptr 14 0]/\F=vH h.X (eN l):=by
 refine verdict_all.enter (by first | rfl | simp [SV.ok,SV.av]) (by first | rfl | simp [Hp.ok,Ob.ok,SV.ok,SV.av,aB.aj]) (by simp) ?_;dsimp only [verdict_all.s,Co.M,Co.J,Co.N,Co.F,Co.Z,Co.b8,Co.ay,Co.T,Co.K,Co.L,Co.P,Co.R,Co.W,Co.Y,Co.V,Co.I,Co.S];refine SW.seq (SW.g0 [0,2,3,4,5,6,8,9,10,12,19,20,21,22,31,32,33,38,39,40,41,51] Zm af ?_);refine SW.seq (SW.vW ?_);(repeat (first | refine bk.op af (h:= ?_) | refine bk.dA af (h:= ?_) | refine bk.skip (h:= ?_)));refine bk.bg (K4 l (by omega) (λ o ho=>⟨(hrow o ho).1,(hrow o ho).2.1⟩)) (HSub.nil _) (h:= ?_);rintro _ _ ⟨S,h,rfl,rfl⟩;simp only [bP,cR,cU,f_,gD,dm,lk,List.lookup,Nat.reduceBEq,BEq.rfl,beq_self_eq_true,if_true,if_false,reduceIte,Nat.reduceEqDiff,Bool.false_eq_true,Option.isSome_some,Option.isSome_none,Nat.reduceAdd];(repeat (first | refine bk.op af (h:= ?_) | refine bk.dA af (h:= ?_) | refine bk.skip (h:= ?_)));refine bk.nil ?_;have cN:=h.N5 hl (h.short hrow);have cD:=h.FO hl;have hsm:=h.small hl;have hT:=h.J6 hl;have eT:=h.BN;have hhas:∀ d,MM.has h.X.ops d=bW l d:=λ d=>by rw [h.F8,h.sQ]
 have h9:∀ d,h.X.nY d<=9:=λ d=>by have:=h.Oc d;omega
 have cL:=Gw hsm h9;rw [h.N9] at cL;have hc9:∀ v,v∈jW l->g_ l v<=9:=λ v hv=>by
  have hg:S.good v=true:=by rw [h.sQ];exact jD.1 hv
  rw [<- h.J5 hg];exact h9 v
 have hRl:(lX l).length<=10:=by
  unfold lX;rw [List.length_map,List.length_range];exact sA λ v hv=>by have:=hc9 v hv;omega
 have hRs:∀ L,L∈lX l->Dt.set L=L/\L.length<=80/\∀ d,d∈L->bW l d=true:=λ L hL=>by
  refine ⟨Gg hL,?_,λ d hd=>oQ.1 (List.mem_flatten.2 ⟨L,hL,hd⟩)⟩;obtain ⟨j,_,rfl⟩:=List.mem_map.1 hL;have h2:=List.length_filter_le (λ v=>decide (g_ l v=j)) (jW l);have h3:=Gx l;omega
 have hds:(xR l).length<=80:=h.mV hl;have hV:eN l=I1 (dS l) (jd (xR l)) (lX l).flatten:=rfl;refine SW.seq (SW.g1 [0,2,3,4,5,6,8,9,10,12,19,20,21,22,31,32,33,38,39,40,41,51] Zm af cN ?_);refine SW.seq (SW.g0 [0,2,3,4,5,6,8,9,10,12,19,20,21,22,31,32,33,38,39,40,41,51] Zm af ?_);refine SW.seq (SW.seq (SW.g1 [0,2,3,4,5,6,8,9,10,12,19,20,21,22,31,32,33,38,39,40,41,51] Zm af cD ?_));obtain ⟨X,eX⟩:∃ X,h.X=X:=⟨_,rfl⟩;rw [eX] at hsm hT eT h9 cL;simp only [eX] at hhas;obtain ⟨D,eD⟩:∃ D,xR l=D:=⟨_,rfl⟩;rw [eD] at hV hds;obtain ⟨R,eR⟩:∃ R,lX l=R:=⟨_,rfl⟩;rw [eR] at hV hRl hRs cL;simp only [eX,eD];refine SW.block (SW.loop (α:={i:Nat // i<=D.length}) (λ i=>⟨[(21,i64 i.1),(20,i64 D.length),(19,bE D),(6,.mp 15),(5,.ptr 14 0)],vH X (jd (D.take i.1)),16⟩) (λ i=>D.length - i.1) ⟨0,Nat.zero_le _⟩ id (aQ.same (Nat.zero_le _) (by simp [aL,List.lookup,SV.aC,SV.ok,SV.av]) (sR _ _ (Nat.le_refl _)) (λ y hy=> ?_)) ?_)
 .simp only [List.mem_cons,List.not_mem_nil,or_false] at hy
  rcases hy with rfl | rfl | rfl | rfl | rfl <;> rfl
 rintro ⟨i,hi⟩;dsimp only
 by_cases hik:i<D.length
 .have h1:decide ((i:Int)<D.length)=true:=by simp only [decide_eq_true_eq];omega
  obtain ⟨d,hx⟩:=br hik;have e2:IntKind.i64.wrap ((i:Int)+1)=((i+1:Nat):Int):=wrap_i64 _ (by omega);have hz:=va (D.take i) d;rw [<- dG hx] at hz;generalize jd (D.take i)=K at hz ⊢;have m0:jU (aq Dt.cells kv K.m) K.c (.agg d.cells) (.d (.int .u8 0)) (MM.idx K.m d)= .map (aq Dt.cells kv (K.put d 0).m) (K.put d 0).c:=xQ K.m K.c d 0;dsimp only [vH,Ix.JR,tJ];refine SW.seq (SW.g0 [0,2,3,4,5,6,8,9,10,12,19,20,21,22,31,32,33,38,39,40,41,51] Zm h1 ?_);refine SW.seq (SW.an rfl (SW.skip ?_));refine SW.seq (SW.block (SW.seq (SW.g0 [0,2,3,4,5,6,8,9,10,12,19,20,21,22,31,32,33,38,39,40,41,51] Zm (Zq (iC hx) (mD hx)) ?_)));refine SW.g0 [0,2,3,4,5,6,8,9,10,12,19,20,21,22,31,32,33,38,39,40,41,51] Zm m0 ?_;refine SW.g0 [0,2,3,4,5,6,8,9,10,12,19,20,21,22,31,32,33,38,39,40,41,51] Zm e2 ?_;refine ⟨⟨i+1,by omega⟩,id,by show D.length - (i+1)<D.length - i;omega,?_⟩;dsimp only;rw [hz];exact aQ.same (Nat.zero_le _) (by simp [aL,List.lookup,SV.aC,SV.ok,SV.av]) (sR _ _ (Nat.le_refl _)) (LD X _ _)
 have h1:decide ((i:Int)<D.length)=false:=by simp only [decide_eq_false_iff_not];omega
 rw [List.take_of_length_le (show D.length<=i by omega)];refine SW.seq (SW.g0 [0,2,3,4,5,6,8,9,10,12,19,20,21,22,31,32,33,38,39,40,41,51] Zm h1 ?_);refine SW.seq (SW.ah rfl (SW.exit ?_));refine (?_:Sl.SW _ _ _ _ _ _);refine SW.seq (SW.g1 [0,2,3,4,5,6,8,9,10,12,19,20,21,22,31,32,33,38,39,40,41,51] Zm af cL ?_);refine SW.seq (SW.seq ?_);simp only [gM];refine SW.g0 [0,2,3,4,5,6,8,9,10,12,19,20,21,22,31,32,33,38,39,40,41,51] Zm af ?_;refine SW.block (SW.loop (α:={k:Nat // k<=R.length}) (λ k=>⟨[(32,i64 k.1),(31,i64 R.length),(9,gM R),(6,.mp 15),(5,.ptr 14 0)],vH X (I1 (dS l) (jd D) (R.take k.1).flatten),16⟩) (λ k=>R.length - k.1) ⟨0,Nat.zero_le _⟩ id (aQ.same (Nat.zero_le _) (by simp [aL,List.lookup,SV.aC,SV.ok,SV.av,gM]) (sR _ _ (Nat.le_refl _)) (Gv X _)) ?_);rintro ⟨k,hk⟩;dsimp only
 by_cases hkk:k<R.length
 .have h1:decide ((k:Int)<R.length)=true:=by simp only [decide_eq_true_eq];omega
  obtain ⟨L,hx⟩:=br hkk;have e2:IntKind.i64.wrap ((k:Int)+1)=((k+1:Nat):Int):=wrap_i64 _ (by omega);obtain ⟨hL1,hL80,hLg⟩:=hRs L (List.mem_of_getElem? hx);have g1:(List.map SV.d (R.map λ L=>GS (Dt.set L)))[k]? =some (bE L):=by
   have:(List.map SV.d (R.map λ L=>GS (Dt.set L)))[k]? =some (.d (GS (Dt.set L))):=by rw [List.getElem?_map,List.getElem?_map,hx];rfl
   rw [this,hL1];rfl
  have hft:=jq hx;simp only [gM];refine SW.seq ?_;refine SW.g0 [0,2,3,4,5,6,8,9,10,12,19,20,21,22,31,32,33,38,39,40,41,51] Zm h1 ?_;refine SW.seq (SW.an rfl (SW.skip ?_));refine SW.seq (SW.block (SW.seq ?_));refine SW.g0 [0,2,3,4,5,6,8,9,10,12,19,20,21,22,31,32,33,38,39,40,41,51] Zm af ?_;refine SW.seq ?_;refine SW.g0 [0,2,3,4,5,6,8,9,10,12,19,20,21,22,31,32,33,38,39,40,41,51] Zm g1 ?_;refine SW.block ?_;refine SW.loop (α:={i:Nat // i<=L.length}) (λ i=>⟨[(40,i64 i.1),(39,i64 L.length),(38,bE L),(32,i64 k),(31,i64 R.length),(9,gM R),(6,.mp 15),(5,.ptr 14 0)],vH X (I1 (dS l) (jd D) ((R.take k).flatten++L.take i.1)),16⟩) (λ i=>L.length - i.1) ⟨0,Nat.zero_le _⟩ id (by
   dsimp only;rw [List.take_zero,List.append_nil];exact aQ.same (Nat.zero_le _) (by simp [aL,List.lookup,SV.aC,SV.ok,SV.av,gM]) (sR _ _ (Nat.le_refl _)) (Gv X _)) ?_
  rintro ⟨i,hi⟩;dsimp only
  by_cases hil:i<L.length
  .have h3:decide ((i:Int)<L.length)=true:=by simp only [decide_eq_true_eq];omega
   obtain ⟨d,hd⟩:=br hil;have e4:IntKind.i64.wrap ((i:Int)+1)=((i+1:Nat):Int):=wrap_i64 _ (by omega);have hh:MM.has X.ops d=true:=by rw [hhas];exact hLg d (List.mem_of_getElem? hd)
   have hvs:=zG (dS l) (jd D) ((R.take k).flatten++L.take i) d;rw [List.append_assoc,<- dG hd] at hvs;generalize I1 (dS l) (jd D) ((R.take k).flatten++L.take i)=K at hvs ⊢;have m2:jU (aq Dt.cells kv K.m) K.c (.agg d.cells) (.d (.int .u8 2)) (MM.idx K.m d)= .map (aq Dt.cells kv (K.put d 2).m) (K.put d 2).c:=xQ K.m K.c d 2;have m1:jU (aq Dt.cells kv (K.put d 2).m) (K.put d 2).c (.agg d.cells) (.d (.int .u8 1)) (MM.idx (K.put d 2).m d)= .map (aq Dt.cells kv ((K.put d 2).put d 1).m) ((K.put d 2).put d 1).c:=xQ (K.put d 2).m (K.put d 2).c d 1;have cH:=I4 X hsm (K.put d 2) d hh (hT d) 17;rw [eT] at cH;unfold zF at hvs;generalize K.put d 2=K2 at m2 m1 cH hvs;generalize K2.put d 1=K3 at m1 hvs;generalize nZ (dS l) K2 d=H at cH hvs;dsimp only [vH,Ix.JR,tJ] at cH ⊢;refine SW.seq (SW.g0 [0,2,3,4,5,6,8,9,10,12,19,20,21,22,31,32,33,38,39,40,41,51] Zm h3 ?_);refine SW.seq (SW.an rfl (SW.skip ?_));refine SW.seq (SW.block (SW.seq (SW.g0 [0,2,3,4,5,6,8,9,10,12,19,20,21,22,31,32,33,38,39,40,41,51] Zm (Zq (iC hd) (mD hd)) ?_)));refine SW.seq (SW.g0 [0,2,3,4,5,6,8,9,10,12,19,20,21,22,31,32,33,38,39,40,41,51] Zm m2 ?_);refine SW.seq ?_
   by_cases hc:H.length>0
   .have c1:decide ((H.length:Int)>0)=true:=by simp only [decide_eq_true_eq];omega
    rw [if_pos hc] at hvs;refine SW.g1 [0,2,3,4,5,6,8,9,10,12,19,20,21,22,31,32,33,38,39,40,41,51] Zm c1 cH ?_;refine SW.an rfl ?_;refine SW.g0 [0,2,3,4,5,6,8,9,10,12,19,20,21,22,31,32,33,38,39,40,41,51] Zm m1 ?_;refine SW.g0 [0,2,3,4,5,6,8,9,10,12,19,20,21,22,31,32,33,38,39,40,41,51] Zm e4 ?_;refine ⟨⟨i+1,by omega⟩,id,by show L.length - (i+1)<L.length - i;omega,?_⟩;dsimp only;rw [hvs];exact aQ.same (Nat.zero_le _) (by simp [aL,List.lookup,SV.aC,SV.ok,SV.av,gM]) (sR _ _ (Nat.le_refl _)) (λ y hy=>by
     simp only [List.mem_cons,List.not_mem_nil,or_false] at hy;rcases hy with rfl | rfl | rfl | rfl | rfl <;> rfl)
   .have c1:decide ((H.length:Int)>0)=false:=by simp only [decide_eq_false_iff_not];omega
    rw [if_neg hc] at hvs;refine SW.g1 [0,2,3,4,5,6,8,9,10,12,19,20,21,22,31,32,33,38,39,40,41,51] Zm c1 cH ?_;refine SW.ah rfl (SW.skip ?_);refine SW.g0 [0,2,3,4,5,6,8,9,10,12,19,20,21,22,31,32,33,38,39,40,41,51] Zm e4 ?_;refine ⟨⟨i+1,by omega⟩,id,by show L.length - (i+1)<L.length - i;omega,?_⟩;dsimp only;rw [hvs];exact aQ.same (Nat.zero_le _) (by simp [aL,List.lookup,SV.aC,SV.ok,SV.av,gM]) (sR _ _ (Nat.le_refl _)) (λ y hy=>by
     simp only [List.mem_cons,List.not_mem_nil,or_false] at hy;rcases hy with rfl | rfl | rfl | rfl | rfl <;> rfl)
  have h3:decide ((i:Int)<L.length)=false:=by simp only [decide_eq_false_iff_not];omega
  rw [List.take_of_length_le (show L.length<=i by omega),<- hft];refine SW.seq (SW.g0 [0,2,3,4,5,6,8,9,10,12,19,20,21,22,31,32,33,38,39,40,41,51] Zm h3 ?_);refine SW.seq (SW.ah rfl (SW.exit ?_));refine (?_:Sl.SW _ _ _ _ _ _);refine SW.g0 [0,2,3,4,5,6,8,9,10,12,19,20,21,22,31,32,33,38,39,40,41,51] Zm e2 ?_;refine ⟨⟨k+1,by omega⟩,id,by show R.length - (k+1)<R.length - k;omega,?_⟩;exact aQ.same (Nat.zero_le _) (by simp [aL,List.lookup,SV.aC,SV.ok,SV.av,gM]) (sR _ _ (Nat.le_refl _)) (Gv X _)
 have h3:decide ((k:Int)<R.length)=false:=by simp only [decide_eq_false_iff_not];omega
 rw [List.take_of_length_le (show R.length<=k by omega),<- hV];refine SW.seq (SW.g0 [0,2,3,4,5,6,8,9,10,12,19,20,21,22,31,32,33,38,39,40,41,51] Zm h3 ?_);refine SW.seq (SW.ah rfl (SW.exit ?_));refine (?_:Sl.SW _ _ _ _ _ _);refine SW.seq (SW.g0 [0,2,3,4,5,6,8,9,10,12,19,20,21,22,31,32,33,38,39,40,41,51] Zm af ?_);refine SW.ret ?_;exact End.mk (vH X (eN l)) (h4:=⟨S,h,rfl,by rw [eX]⟩) (h6:=sR _ _ (Nat.le_refl _))
theorem LF (l:List ag)(hl:l.length<=80)(hrow:oN l):SC Tryz.prog verdict_all.f [ops l] [] 0 16 λ r F=>∃ S,∃ h:dh l S,r= .cZ [.mp 15,.ptr 14 0]/\F=vH h.X (eN l):=
 (Gy l hl hrow).here (λ _=>false) (λ n h=>by cases h) rfl rfl λ r F _ h1 h2=>⟨SV.fh (λ n hn=>by simpa using hn) _ h1,Hp.dV (λ n hn=>by simpa using hn) h2⟩
set_option maxHeartbeats 4000000 in
theorem Nf (l:List ag)(hl:l.length<=80)(hrow:oN l):SB Tryz.prog verdict_Of.f [ops l] [] 0 1 λ r F=>r= .mp 0/\F=[(0,tJ (eN l))]:=by
 refine verdict_Of.enter (by first | rfl | simp [SV.ok,SV.av]) (by first | rfl | simp [Hp.ok,Ob.ok,SV.ok,SV.av,aB.aj]) (by simp) ?_;dsimp only [verdict_Of.s,Co.M,Co.J,Co.F,Co.E,Co.P,Co.S];refine SW.seq (SW.g0 [0,2,3] Zm af ?_);refine SW.seq (SW.vW ?_);(repeat (first | refine bk.op af (h:= ?_) | refine bk.dA af (h:= ?_) | refine bk.skip (h:= ?_)));refine bk.bg (LF l hl hrow) (HSub.nil _) (h:= ?_);rintro _ _ ⟨S,h,rfl,rfl⟩;simp only [bP,cR,cU,f_,gD,dm,lk,List.lookup,Nat.reduceBEq,BEq.rfl,beq_self_eq_true,if_true,if_false,reduceIte,Nat.reduceEqDiff,Bool.false_eq_true,Option.isSome_some,Option.isSome_none,Nat.reduceAdd];(repeat (first | refine bk.op af (h:= ?_) | refine bk.dA af (h:= ?_) | refine bk.skip (h:= ?_)));refine bk.nil ?_;refine SW.weak (λ n=>if n=0 then 15 else n) (st1:=⟨[(3,.mp 0)],[(0,tJ (eN l))],1⟩) ?_ ?_
 .refine ⟨Nat.zero_le _,λ n hn=>absurd hn (Nat.not_lt_zero n),?_,?_,?_⟩
  .simp [aL,List.lookup,SV.aC,SV.ok]
  .simp [s7,aa,Ob.aC,Ob.ok,gP,dO]
  .intro a ha b hb e
   simp only [List.map_cons,List.map_nil,List.mem_singleton] at ha hb;rw [ha,hb]
 refine SW.seq (SW.g0 [0,2,3] Zm af ?_);refine SW.ret ?_;exact End.mk [(0,tJ (eN l))] (h4:=⟨rfl,rfl⟩) (h6:=ax (by simp) (dO _ _) rfl)
theorem Gz (l:List ag)(hl:l.length<=80)(hrow:oN l)(k:Nat):aG Tryz.prog verdict_Of.f [ops l] [] k 1 (.mp k) [(k,tJ (eN l))]:=by
 have:=SB.new (Nf l hl hrow) k
 simpa [SV.aC,eP,Hp.aC,Ob.aC,gP] using this
end
end Go.Proofs.YtaelhkkjgfobhaaGreat
namespace Go.Proofs.YtaelhkkjgfobhaaGreat
open Go.Sl Go.Proofs
section
attribute [local irreducible] SW RW aG SC ai ak
abbrev GA (l:List ag):List SV:=List.map SV.d (l.flatMap ag.ds)
end
section
section
variable {t l:List ag} {S U:Sh} (hP:Part t l) (hS:dh t S) (hU:dh l U)
include hP hS hU
end
end
section
theorem C9 {l:List ag}(hu:qj l){x:ag}(hx:x∈l):bW l x.dot=decide (eW l x=0):=by
 unfold bW;rw [hu.find hx]
section
variable {t l:List ag} (hP:Part t l)
include hP
end
end
end Go.Proofs.YtaelhkkjgfobhaaGreat
