/-
 Who threatens, as a row of one's own.
-/
import Derived.Test.YtaelhkkjgfobhaaGreatU7
import Derived.Test.YtaelhkkjgfobhaaGreatVD
set_option linter.unusedSectionVars false
set_option linter.unusedVariables false
set_option linter.unusedSimpArgs false
namespace Go.Proofs.YtaelhkkjgfobhaaGreat
open Go.Sl Go.Proofs Go.Sort
attribute [local irreducible] SW RW aJ SC ai an iN
theorem Bw {L:i_}{c:Nat}(hwf:MM.wf L c)(hL:L.length<1000000000):
  SB Tryz.prog slices_SortedFunc_api_Dot.f [.fn (.func maps_Keys_dot_set_api_Dot_int_1.f) [] [.ptr 0 0],.fn (.func dot_Compare.f) [] []] (gR 0 1 L c) 2 1
   λ r F=>r= .gs 2 (Dt.sorted (MM.keys L)).length/\F=(2,l9 (Dt.sorted (MM.keys L)) 2)::gR 0 1 L c:=by
 refine slices_SortedFunc_api_Dot.enter (by simp [SV.ok,SV.ay]) (pY _ _ _ _ _ rfl rfl) (by simp) ?_;dsimp only [slices_SortedFunc_api_Dot.s,Co.M,Co.J,Co.F,Co.P,Co.Q,Co.S];refine SW.seq (SW.g0 [0,1,4,5] Zm af ?_);refine SW.seq (SW.tP ?_);(repeat (first | refine aV.op af (h:= ?_) | refine aV.dQ af (h:= ?_) | refine aV.skip (h:= ?_)));refine aV.bC (vo hwf hL) (λ _ _ h=>h) (h:= ?_);rintro v F' ⟨rfl,l,hl,rfl⟩;simp only [bR,cg,cq,gh,gf,cE,lk,List.lookup,Nat.reduceBEq,BEq.rfl,beq_self_eq_true,if_true,if_false,reduceIte,Nat.reduceEqDiff,Bool.false_eq_true,Option.isSome_some,Option.isSome_none,Nat.reduceAdd,gR];(repeat (first | refine aV.op af (h:= ?_) | refine aV.dQ af (h:= ?_) | refine aV.skip (h:= ?_)));refine aV.nil ?_;have hlen:l.length=L.length:=by rw [hl.length_eq];simp [MM.keys]
 refine SW.seq (SW.tP ?_);(repeat (first | refine aV.op af (h:= ?_) | refine aV.dQ af (h:= ?_) | refine aV.skip (h:= ?_)));rw [<- hlen];refine aV.oo af (l6 2 l (by omega) 3) (h:= ?_);refine aV.nil ?_;refine SW.seq (SW.g0 [0,1,4,5] Zm af ?_);have gD:(Dt.sorted l).length=l.length:=(Dt.sorted_perm l).length_eq;have hse:Dt.sorted l=Dt.sorted (MM.keys L):=Dt.iE ((Dt.sorted_perm l).trans hl) (Dt.eP l);rw [<- hse,<- gD];refine SW.ret ?_;exact End.mk ((2,l9 (Dt.sorted l) 2)::gR 0 1 L c) (h4:=⟨rfl,rfl⟩) (h6:=by simp [gR,Hp.ok,Ob.ok,SV.ay,SV.ok,SV.bg,bB])
theorem Bx {L:i_}{c:Nat}(hwf:MM.wf L c)(hL:L.length<1000000000)(k:Nat)(b m:Nat)(IJ:b≠m):
  aJ Tryz.prog slices_SortedFunc_api_Dot.f [.fn (.func maps_Keys_dot_set_api_Dot_int_1.f) [] [.ptr b 0],.fn (.func dot_Compare.f) [] []] (gR b m L c) k 1 (.gs k (Dt.sorted (MM.keys L)).length) ((k,l9 (Dt.sorted (MM.keys L)) k)::gR b m L c):=by
 have h:=SB.nM [b,m] (Bw hwf hL) (by simp [IJ]) (λ i hi=>rK L c i (by simpa using hi)) k
 simpa [SV.aQ,SV.aA,ff,gR,Hp.aA,Ob.aA,cM,SV.eE] using h
theorem G9 {L:i_}{c:Nat}(hwf:MM.wf L c)(hL:L.length<1000000000):SB Tryz.prog dot_set_list.f [.mp 0] [(0,.map (ah Dt.cells iv L) c)] 1 2 λ r F=>r= .gs 2 (Dt.sorted (MM.keys L)).length/\F=[(2,l9 (Dt.sorted (MM.keys L)) 2),(0,.map (ah Dt.cells iv L) c)]:=by
 refine dot_set_list.enter rfl (by simp [Hp.ok,Ob.ok,bB]) (by simp) ?_;dsimp only [dot_set_list.s,Co.M,Co.J,Co.F,Co.C,Co.P,Co.S];refine SW.seq (SW.g0 [0,2] Zm af ?_);refine SW.seq (SW.tP ?_);(repeat (first | refine aV.op af (h:= ?_) | refine aV.dQ af (h:= ?_) | refine aV.skip (h:= ?_)));refine aV.oo af (Cc L c 0 1) (h:= ?_);refine aV.oo af (Bx hwf hL 2 1 0 (by decide)) (h:= ?_);(repeat (first | refine aV.op af (h:= ?_) | refine aV.dQ af (h:= ?_) | refine aV.skip (h:= ?_)));refine aV.nil (SW.ret ?_);exact End.mk [(2,l9 (Dt.sorted (MM.keys L)) 2),(0,.map (ah Dt.cells iv L) c)] (h4:=⟨rfl,rfl⟩) (h6:=by simp [Hp.ok,Ob.ok,SV.ay,SV.ok,bB,SV.bg])
theorem G_ {L:i_}{c:Nat}(hwf:MM.wf L c)(hL:L.length<1000000000)(n k:Nat):aJ Tryz.prog dot_set_list.f [.mp n] [(n,.map (ah Dt.cells iv L) c)] k 2 (.gs (k+1) (Dt.sorted (MM.keys L)).length) [(k+1,l9 (Dt.sorted (MM.keys L)) 2),(n,.map (ah Dt.cells iv L) c)]:=by
 have h:=SB.nM [n] (G9 hwf hL) (by simp) (λ i hi=>by cases i with | zero=>simp [aa] | succ i=>simp at hi) k;simp [SV.aQ,SV.aA,ff,Hp.aA,Ob.aA,cM,SV.eE] at h;rw [Nat.add_comm 1 k] at h;exact h
theorem He (l:List Dt)(hl:l.length<1000000000):SB Tryz.prog dot_Sort.f [bq l] [] 0 3 λ r F=>r= .gs 2 (Dt.set l).length/\F=[(2,l9 (Dt.set l) 2)]:=by
 refine dot_Sort.enter (by simp [SV.ok,SV.ay]) rfl (by simp) ?_;dsimp only [dot_Sort.s,Co.M,Co.J,Co.F,Co.P,Co.S];refine SW.seq (SW.g0 [0,2] Zm af ?_);refine SW.seq (SW.tP ?_);(repeat (first | refine aV.op af (h:= ?_) | refine aV.dQ af (h:= ?_) | refine aV.skip (h:= ?_)));refine aV.oo af (zV l (by omega) 0) (h:= ?_);refine aV.oo af (G_ (uk l) (Nat.lt_of_le_of_lt (zU l) hl) 0 1) (h:= ?_);(repeat (first | refine aV.op af (h:= ?_) | refine aV.dQ af (h:= ?_) | refine aV.skip (h:= ?_)));refine aV.nil (SW.ret ?_);exact End.mk [(2,l9 (Dt.set l) 2)] (h4:=⟨rfl,rfl⟩) (h6:=by simp [Hp.ok,Ob.ok,SV.bg])
theorem Hf (l:List Dt)(hl:l.length<1000000000)(k:Nat):aJ Tryz.prog dot_Sort.f [bq l] [] k 3 (.gs (k+2) (Dt.set l).length) [(k+2,l9 (Dt.set l) 2)]:=by
 have h:=SB.nM [] (He l hl) (by simp) (λ i hi=>by simp at hi) k;have e:ff [] k 2=k+2:=by simp [ff];omega
 simp only [SV.aQ,SV.aA,e,Hp.aA,Ob.aA,SV.eE,List.map_cons,List.map_nil] at h;exact h
set_option maxHeartbeats 4000000 in
theorem DM (X:Ix)(hX:X.small)(o:ag):SB Tryz.prog revoke_sorted_api_Dot.f [.fn (.func revoke_Index_threats_1.f) [] [.ptr 4 0,.ptr 5 0],.fn (.func revoke_Index_Threats_1.f) [] []] (yI X o) 6 (4+iN 4)
  λ r F=>r= .gs 6 (Dt.set (X.dh o)).length/\F=(6,l9 (Dt.set (X.dh o)) 6)::yI X o:=by
 have hlen:=rQ X hX o;refine revoke_sorted_api_Dot.enter (by simp [SV.ay,SV.ok]) (nX X o (Nat.le_refl 6)) (by simp) ?_;dsimp only [revoke_sorted_api_Dot.s,Co.M,Co.J,Co.F,Co.b8,Co.aB,Co.T,Co.K,Co.P,Co.x,Co.W,Co.S];refine SW.seq (SW.g0 [0,1,3,4,5,6,7,8] Zm af ?_);refine SW.seq (SW.g0 [0,1,3,4,5,6,7,8] Zm af ?_);refine SW.uZ 7 31 37 2 (by rfl) ?_;refine SW.seq (SW.seq (SW.g0 [0,1,3,4,5,6,7,8] Zm af ?_));refine SW.block (SW.qZ (nk:=iN 4) [5,3] [.ptr 7 0,.ptr 6 0] rfl ⟨rfl,rfl,trivial⟩ λ ca cb hca hcb=> ?_)
 let s0:Bf:=⟨[],8⟩
 have hy:=JZ (y:=9) (bx:=7) (bf:=6) (by decide) (by decide) (by decide) hca hcb;have hF0:(dX 9 7 6 ca cb s0).ok (λ n=>decide (n<10))=true:=by simp [dX,s0,Hp.ok,Ob.ok,SV.ay,SV.ok]
 have hO:oG (TG X o 4 5) (dX 9 7 6 ca cb) s0 10:=by
  refine ⟨by simp,λ n hn=> ?_,λ n hn=> ?_,nX X o (by omega),hF0⟩
  .simp only [TG,List.map_cons,List.map_nil,List.mem_cons,List.not_mem_nil,or_false] at hn;omega
  .simp only [TG,List.map_cons,List.map_nil,List.mem_cons,List.not_mem_nil,or_false] at hn
   rcases hn with rfl | rfl | rfl | rfl | rfl | rfl <;> simp [dX,s0,aa,bD]
 have h0:TI X o (dX 9 7 6 ca cb) Mc (Ll 9 7 6) s0 10 4 5 10 (X.dh o) s0 10:=⟨⟨[],.nil,rfl⟩,⟨⟨by decide,by decide,by decide⟩,by show 0+_<=_;omega⟩,hO,Nat.le_refl _,by decide,λ n hn=> .inl hn⟩;have hsb:=Ck (y:=9) (bx:=4) (bo:=5) (k:=10) X hX o s0 hy h0;have hsubF:HSub (TG X o 4 5++dX 9 7 6 ca cb s0) ((9,.oU 17 [5,3] [.ptr 7 0,.ptr 6 0] [8] ca cb .ready none)::(7,.box 31 [.gs 8 0])::(8,.arr 37 2 0 [])::(7,.box 31 [.d .aN])::(6,.box 123 [.fn (.func revoke_Index_Threats_1.f) [] []])::yI X o):=by
  intro n ob hn
  match n with
  | 0 | 1 | 2 | 3 | 4 | 5 | 6 | 7 | 8 | 9=>simpa [TG,dX,s0,aa] using hn
  | n+10=>simp [TG,dX,s0,aa,bD] at hn
 have hsc:=(hsb.here (λ n=>decide (n<10)) (λ n hn=> ?_) (by simp [SV.ay,SV.ok]) (Bg (nX X o (by omega)) hF0) ?_).frame hsubF
 .refine hsc.mono ?_
  rintro r F' ⟨F1,⟨rfl,s',hTI,rfl⟩,rfl⟩;obtain ⟨xs,hon,hxs⟩:=hTI.h1;rw [List.append_nil] at hxs;have hl':=O2 hon;obtain ⟨L,rn⟩:=s';have hL:L=X.dh o:=by rw [hxs];simpa [s0] using hl'
  obtain ⟨⟨b1,b2,b3⟩,_⟩:=hTI.h2;dsimp only at b1 b2 b3;have hno:∀ n,n∈(TG X o 4 5).map (·.1)->n≠rn:=λ n hn e=>by
   have:=hTI.own.no n hn;rw [e] at this;simp [dX,aa,b1,b2,b3] at this
  have b4:=hno 4 (by simp);have b5:=hno 5 (by simp);have c0:=hno 0 (by simp);have c1:=hno 1 (by simp);have c2:=hno 2 (by simp);have c3:=hno 3 (by simp);rw [<- hL];have hlk:=h_ (ro:=false) (F':=TG X o 4 5++dX 9 7 6 ca cb ⟨L,rn⟩) hsubF (λ h=>by cases h);generalize bR false _ _ _=G at hlk;have hG:∀ n ob,lk (TG X o 4 5++dX 9 7 6 ca cb ⟨L,rn⟩) n=some ob->lk G n=some ob:=λ n ob h=>by
   rw [hlk,eM (.inr (by rw [h];simp)),h]
  refine ⟨none,hG 9 _ (by simp [TG,dX,aa,lV]),?_⟩;have hrn:rn<10+iN 4:=by
   have:=(Hp.eF hTI.own.okF (show lk (dX 9 7 6 ca cb ⟨L,rn⟩) rn=some (.arr 37 2 L.length ((L.flatMap Dt.ds).map .d)) by simp [dX,aa,b1,b2,b3])).1
   simpa using this
  refine SW.weak (λ n=>if n=8 then rn else n) (st1:=⟨[(5,.ptr 7 0)],(7,.box 31 [.gs 8 L.length])::(8,.arr 37 2 L.length ((L.flatMap Dt.ds).map .d))::yI X o,10⟩) ?_ ?_
  .have q7:=hG 7 (.box 31 [.gs rn L.length]) (by simp [TG,dX,aa])
   have q8:=hG rn (.arr 37 2 L.length ((L.flatMap Dt.ds).map .d)) (by simp [TG,dX,aa,b1,b2,b3,b4.symm,b5.symm,c0.symm,c1.symm,c2.symm,c3.symm]);have q4:=hG 4 (.box 27 [.ptr 0 0]) (by simp [TG,aa]);have q5:=hG 5 (.box 43 o.cells) (by simp [TG,aa]);have q0:=hG 0 (.box 110 [.any,.mp 1,.mp 2,.mp 3]) (by simp [TG,aa]);have q1:=hG 1 (.map (ah Dt.cells ov X.ops) X.co) (by simp [TG,aa]);have q2:=hG 2 (.map (ah Dt.cells dn X.ch) X.cc) (by simp [TG,aa]);have q3:=hG 3 (.map (ah Dt.cells dn X.kG) X.cf) (by simp [TG,aa]);refine ⟨by show 6<=10;omega,λ n hn=>if_neg (by omega),?_,?_,?_⟩
   .simp [aL,List.lookup,SV.aA,SV.ok]
   .simp [uK,dg,Ob.aA,SV.aQ,SV.aA,SV.eE,SV.bg,Ob.ok,SV.ay,SV.ok,q7,q8,q4,q5,q0,q1,q2,q3,b1,ag.ax,ag.aq,bA,a_,dA,dw]
   .intro a ha b hb e
    simp only [yI,TG,List.map_cons,List.map_nil,List.mem_cons,List.not_mem_nil,or_false] at ha hb;rcases ha with rfl | rfl | rfl | rfl | rfl | rfl | rfl | rfl <;> rcases hb with rfl | rfl | rfl | rfl | rfl | rfl | rfl | rfl <;> simp at e <;> first | rfl | omega
  .refine SW.rA 8 (L.flatMap Dt.ds) rfl rfl ?_
   simp only [k_,SV.iB,List.map_cons,List.map_nil,if_true,if_false,reduceIte,cE,Nat.reduceEqDiff,AP,yI,TG,Ix.h0,Ob.iB,SV.jS];have e0:∀ m:MM Dt ag,(ah Dt.cells ov m).map (λ e=>(e.1,e.2.1,e.2.2.iB 8 L.length (L.flatMap Dt.ds)))=ah Dt.cells ov m:=λ m=>s7 (q:=λ _=>false) rfl (a_ _ _)
   have e1:∀ m:MM Dt (List Dt),(ah Dt.cells dn m).map (λ e=>(e.1,e.2.1,e.2.2.iB 8 L.length (L.flatMap Dt.ds)))=ah Dt.cells dn m:=λ m=>s7 (q:=λ _=>false) rfl (dw _ _)
   have e2:SV.jS 8 L.length (L.flatMap Dt.ds) o.cells=o.cells:=SV.lH (q:=λ _=>false) rfl _ (ag.aq _ _);simp only [e0,e1,e2];have hs:=Hf L (by rw [hL];omega);refine SW.seq (SW.g1 [0,1,3,4,5,6,7,8] Zm af hs ?_);refine SW.weak (λ n=>if n=6 then 12 else n) (st1:=⟨[(4,.gs 6 (Dt.set L).length)],(6,l9 (Dt.set L) 6)::yI X o,10+iN 4⟩) ?_ (SW.ret ?_)
   .refine ⟨by show 6<=10+iN 4;omega,λ n hn=>if_neg (by omega),?_,?_,?_⟩
    .simp [aL,List.lookup,SV.aA,SV.ok]
     omega
    .simp [uK,aa,dg,Ob.aA,SV.aQ,SV.aA,SV.eE,SV.bg,Ob.ok,SV.ay,SV.ok,ag.ax,ag.aq,bA,a_,dA,dw]
     omega
    .intro a ha b hb e
     simp only [yI,TG,List.map_cons,List.map_nil,List.mem_cons,List.not_mem_nil,or_false] at ha hb;rcases ha with rfl | rfl | rfl | rfl | rfl | rfl | rfl <;> rcases hb with rfl | rfl | rfl | rfl | rfl | rfl | rfl <;> simp at e <;> first | rfl | omega
   exact End.mk ((6,l9 (Dt.set L) 6)::yI X o) (h4:=⟨rfl,rfl⟩) (h5:=by simp [fc,SV.ok];omega) (h6:=ak (by simp;omega) (SV.bg _) (nX X o (by omega))) (h7:=by show 6+(4+iN 4)<=10+iN 4;omega)
 .match n,hn with
  | 0,_ | 1,_ | 2,_ | 3,_ | 4,_ | 5,_ | 6,_ | 7,_ | 8,_ | 9,_=>simp [TG,dX,s0,aa]
  | n +10,h=>
    have:n+10<10:=by simpa using h
    omega
 .rintro r F' _ h1 h2
  refine ⟨SV.eW (λ n hn=> ?_) _ h1,Hp.dH (λ n hn=> ?_) h2⟩ <;> (simp at hn ⊢;omega)
theorem DN (X:Ix)(hX:X.small)(o:ag)(k:Nat):aJ Tryz.prog revoke_sorted_api_Dot.f [.fn (.func revoke_Index_threats_1.f) [] [.ptr 7 0,.ptr 8 0],.fn (.func revoke_Index_Threats_1.f) [] []] (TG X o 7 8) k (4+iN 4) (.gs k (Dt.set (X.dh o)).length) ((k,l9 (Dt.set (X.dh o)) k)::TG X o 7 8):=by
 have:=SB.nM [0,1,2,3,7,8] (DM X hX o) (by decide) (λ i hi=>by
  match i,hi with
  | 0,_ | 1,_ | 2,_ | 3,_ | 4,_ | 5,_=>simp [aa]) k
 simpa [SV.aQ,SV.aA,ff,ag.ax,Hp.aA,Ob.aA,bA,dA,SV.eE] using this
set_option maxHeartbeats 4000000 in
theorem Hg (X:Ix)(hX:X.small)(d:Dt)(hh:MM.has X.ops d=true):SB Tryz.prog revoke_Index_Threats.f [.ptr 0 0,.agg d.cells] X.h0 4 6 λ r F=>r= .eu [.gs 9 (X.bL d).length,i64 0]/\F=(9,l9 (X.bL d) 9)::X.h0:=by
 refine revoke_Index_Threats.enter (by simp [SV.ay,SV.ok]) (X.tT (Nat.le_refl 4)) (by simp) ?_;dsimp only [revoke_Index_Threats.s,Co.M,Co.J,Co.F,Co.C,Co.Z,Co.bW,Co.T,Co.K,Co.E,Co.Q,Co.x,Co.Y,Co.D,Co.A,Co.S];have hl:=Ab X hX d;have hT:X.bL d=Dt.set (X.dh (X.op d)):=by unfold Ix.bL;rw [if_pos hh]
 refine SW.seq (SW.g0 [0,1,3,4,5,7,15] Zm af ?_);refine SW.seq (SW.seq ?_);have hlv:jd X d= .eu [.d (.int .i64 (((X.mD d).length:Int) - 1)),i64 0]:=by unfold jd;rw [hh];rfl
 rw [hlv] at hl;refine SW.g1 [0,1,3,4,5,7,15] Zm af hl ?_;refine SW.seq (SW.g0 [0,1,3,4,5,7,15] Zm af ?_);refine SW.au rfl (SW.skip (SW.seq ?_));obtain ⟨o,ho⟩:∃ o,(MM.get X.ops d).getD ag.zero=o:=⟨_,rfl⟩;have hto:X.op d=o:=ho;have hthr:aJ Tryz.prog revoke_Index_threats.f [.ptr 0 0,.agg o.cells] X.h0 7 2 (.fn (.func revoke_Index_threats_1.f) [] [.ptr 7 0,.ptr 8 0]) ((8,.box 43 o.cells)::(7,.box 27 [.ptr 0 0])::X.h0):=xD X o 7;have hs:=DN X hX o;rw [hT,hto];generalize Dt.set (X.dh o)=R at hs;refine SW.g2 [0,1,3,4,5,7,15] Zm ho hthr hs ?_;refine SW.ret ?_;exact End.mk ((9,l9 R 9)::X.h0) (h4:=⟨rfl,rfl⟩) (h6:=ak (by simp) (SV.bg _) (X.tT (by omega))) (h7:=by show 4+6<=7+2+(4+iN 4);omega)
end Go.Proofs.YtaelhkkjgfobhaaGreat
namespace Go.Proofs.YtaelhkkjgfobhaaGreat
open Go.Sl Go.Proofs
section
section
variable (dh:Dt->List Dt)
def HC:Nat->Dt->Bool
 | 0,_=>true
 | n+1,d=>(dh d).all λ t=> !HC n t
def vM (K:KM)(d:Dt):List Dt:=(dh d).filter λ t=>decide (K.get t=2)
def An (K:KM)(d:Dt):KM:=if (vM dh (K.put d 2) d).length>0 then (K.put d 2).put d 1 else K.put d 2
def jf (ds:List Dt):KM:=ds.foldl (λ K d=>K.put d 0) ⟨[],0⟩
def Jl (K:KM)(xs:List Dt):KM:=xs.foldl (An dh) K
theorem vN (ds:List Dt)(d:Dt):jf (ds++[d])=(jf ds).put d 0:=by unfold jf;rw [List.foldl_append];rfl
theorem Ao (K:KM)(xs:List Dt)(d:Dt):Jl dh K (xs++[d])=An dh (Jl dh K xs) d:=by unfold Jl;rw [List.foldl_append];rfl
variable {dh}
theorem Ap {lv:Dt->Nat}(hlv:∀ d t,t∈dh d->lv t<lv d):∀ (n m:Nat) (d:Dt),lv d<n->lv d<m->HC dh n d=HC dh m d
 | 0,_,_,h,_=>absurd h (Nat.not_lt_zero _)
 | _,0,_,_,h=>absurd h (Nat.not_lt_zero _)
 | n +1,m+1,d,h1,h2=>by
  simp only [HC];rw [Bool.eq_iff_iff,List.all_eq_true,List.all_eq_true];have key:∀ t,t∈dh d->HC dh n t=HC dh m t:=λ t ht=>by
   have:=hlv d t ht;exact Ap hlv n m t (by omega) (by omega)
  exact ⟨λ h t ht=>by rw [<- key t ht];exact h t ht,λ h t ht=>by rw [key t ht];exact h t ht⟩
structure VI (gv:Dt->Bool)(ds xs:List Dt)(K:KM):Prop where
 wf:MM.wf K.m K.c
 keys:∀ d,MM.has K.m d=true↔d∈ds
 get:∀ d,K.get d=if d∈xs then (if gv d then 2 else 1) else 0
theorem KM.lU (K:KM)(d:Dt)(n:Nat)(e:Dt):MM.has (K.put d n).m e=(decide (e=d) || MM.has K.m e):=MM.lU
theorem KM.fV {K:KM}(h:MM.wf K.m K.c)(d:Dt)(n:Nat):MM.wf (K.put d n).m (K.put d n).c:=MM.fV h d n
theorem Hh:∀ n (ds:List Dt),ds.length=n->MM.wf (jf ds).m (jf ds).c/\(∀ d,MM.has (jf ds).m d=true↔d∈ds)/\∀ d,(jf ds).get d=0:=by
 intro n
 induction n with
 | zero=>
  intro ds h;rw [List.eq_nil_of_length_eq_zero h];exact ⟨MM.j7,λ d=>by simp [jf,MM.has,MM.get],λ d=>by simp [jf,KM.get,MM.get]⟩
 | succ n ih=>
  intro ds h;have hne:ds≠[]:=λ e=>by rw [e] at h;cases h
  obtain ⟨t,d,rfl⟩:∃ t d,ds=t++[d]:=⟨ds.dropLast,ds.getLast hne,(List.dropLast_concat_getLast hne).symm⟩;obtain ⟨h1,h2,h3⟩:=ih t (by simp at h;exact h);rw [vN];refine ⟨KM.fV h1 _ _,λ e=> ?_,λ e=> ?_⟩
  .rw [KM.lU,Bool.or_eq_true,decide_eq_true_eq,h2,List.mem_append,List.mem_singleton,or_comm]
  .rw [KM.bT]
   split
   .rfl
   .exact h3 e
theorem VI.zero (gv:Dt->Bool)(ds:List Dt):VI gv ds [] (jf ds):=by
 obtain ⟨h1,h2,h3⟩:=Hh _ ds rfl;exact ⟨h1,h2,λ d=>by rw [h3,if_neg (by simp)]⟩
theorem VI.step {gv:Dt->Bool}{ds xs:List Dt}{K:KM}(h:VI gv ds xs K){x:Dt}(hx:x∈ds)(ht:∀ t,t∈dh x->t∈xs/\t≠x)(hg:gv x=(dh x).all λ t=> !gv t):VI gv ds (xs++[x]) (An dh K x):=by
 have hp:∀ t,t∈dh x->((K.put x 2).get t=2↔gv t=true):=λ t htt=>by
  obtain ⟨h1,h2⟩:=ht t htt;rw [KM.bT,if_neg h2,h.get,if_pos h1];cases gv t <;> simp
 have hh:(vM dh (K.put x 2) x).length>0↔gv x=false:=by
  rw [hg,List.all_eq_false];unfold vM;rw [gt_iff_lt,List.length_pos_iff_exists_mem];simp only [List.mem_filter,decide_eq_true_eq];constructor
  .rintro ⟨t,h1,h2⟩
   exact ⟨t,h1,by simp [(hp t h1).1 h2]⟩
  .rintro ⟨t,h1,h2⟩
   exact ⟨t,h1,(hp t h1).2 (by simpa using h2)⟩
 have hk:∀ d,d=x\/d∈ds↔d∈ds:=λ d=>⟨λ h=>h.elim (λ e=>by rw [e];exact hx) id,.inr⟩
 unfold An
 by_cases hc:(vM dh (K.put x 2) x).length>0
 .have hgf:=hh.1 hc
  rw [if_pos hc];refine ⟨KM.fV (KM.fV h.wf _ _) _ _,λ d=> ?_,λ d=> ?_⟩
  .rw [KM.lU,KM.lU,Bool.or_eq_true,Bool.or_eq_true,decide_eq_true_eq,h.keys,hk,hk]
  .rw [KM.bT,KM.bT,h.get]
   by_cases e:d=x
   .subst e;simp [hgf]
   .simp [e]
 .have hgf:gv x=true:=by
   cases hgx:gv x with
   | true=>rfl
   | false=>exact absurd (hh.2 hgx) hc
  rw [if_neg hc];refine ⟨KM.fV h.wf _ _,λ d=> ?_,λ d=> ?_⟩
  .rw [KM.lU,Bool.or_eq_true,decide_eq_true_eq,h.keys,hk]
  .rw [KM.bT,h.get]
   by_cases e:d=x
   .subst e;simp [hgf]
   .simp [e]
theorem Hi {gv:Dt->Bool}{ds L:List Dt}(hds:∀ d,d∈L->d∈ds)(NK:∀ A x B,L=A++x::B->∀ t,t∈dh x->t∈A/\t≠x)(hg:∀ d,gv d=(dh d).all λ t=> !gv t):∀ i,i<=L.length->VI gv ds (L.take i) (Jl dh (jf ds) (L.take i))
 | 0,_=>VI.zero gv ds
 | i +1,hi=>by
  obtain ⟨x,hx⟩:=aZ (show i<L.length by omega);have hxm:=List.mem_of_getElem? hx;have e:=dB hx;have he:L=L.take i++x::L.drop (i+1):=by
   have:L[i]=x:=by rw [List.getElem?_eq_getElem (by omega)] at hx;exact Option.some.inj hx
   rw [<- this,<- List.drop_eq_getElem_cons,List.take_append_drop]
  rw [e,Ao];exact (Hi hds NK hg i (by omega)).step (hds x hxm) (NK _ _ _ he) (hg x)
end
theorem tf {l:List ag}{d t:Dt}:t∈bX l d↔dY l d=true/\dY l t=true/\yK l d t=true:=by
 unfold bX
 split
 .rename_i h
  rw [List.mem_filter,jK];exact ⟨λ h2=>⟨h,h2⟩,λ h2=>h2.2⟩
 .rename_i h
  exact ⟨λ h2=>(by cases h2),λ h2=>absurd h2.1 h⟩
theorem kS {l:List ag}{d:Dt}(h:dY l d=true):∃ o,aW l d=some o/\kf l o=0/\tS l d=o/\o.dot=d:=by
 unfold dY at h;cases hf:aW l d with
 | none=>rw [hf] at h;cases h
 | some o=>
  rw [hf] at h;exact ⟨o,rfl,of_decide_eq_true h,bG hf,fF hf⟩
theorem qe {l:List ag}{d t:Dt}(h:t∈bX l d):gU l t<gU l d:=by
 obtain ⟨h1,h2,h3⟩:=tf.1 h;obtain ⟨o,_,ho,e1,_⟩:=kS h1;obtain ⟨r,_,hr,e2,_⟩:=kS h2;unfold yK Bh at h3;rw [e1,e2] at h3;simp only [Bool.and_eq_true,decide_eq_true_eq] at h3;unfold gU;rw [e1,e2];exact (Cn ho hr h3.1 h3.2.1).1
noncomputable def HD (l:List ag)(d:Dt):Bool:=HC (bX l) (gU l d+1) d
theorem Bz (l:List ag)(d:Dt):HD l d=(bX l d).all λ t=> !HD l t:=by
 unfold HD;show ((bX l d).all λ t=> !HC (bX l) (gU l d) t)=_;rw [Bool.eq_iff_iff,List.all_eq_true,List.all_eq_true];have key:∀ t,t∈bX l d->HC (bX l) (gU l d) t=HC (bX l) (gU l t+1) t:=λ t ht=>
  Ap (lv:=gU l) (λ _ _ h=>qe h) _ _ t (qe ht) (Nat.lt_succ_self _)
 exact ⟨λ h t ht=>by rw [<- key t ht];exact h t ht,λ h t ht=>by rw [key t ht];exact h t ht⟩
noncomputable def Hj (l:List ag)(d:Dt):Nat:=if dY l d then (if HD l d then 2 else 1) else 0
theorem Aq {l:List ag}{j:Nat}{L:List Dt}(h:(mF l)[j]? =some L):L=(ko l).filter λ v=>decide (gU l v=j):=by
  unfold mF at h;rw [List.getElem?_map] at h;obtain ⟨i,hi,rfl⟩:=Option.map_eq_some_iff.1 h;rw [List.getElem?_range] at hi
  . injection hi with hi
    rw [hi]
  . by_cases hj:j<xE (gU l) (ko l)
    . exact hj
    . rw [List.getElem?_eq_none (by simpa using hj)] at hi
      cases hi
theorem oR {l:List ag}{d:Dt}:d∈(mF l).flatten↔dY l d=true:=by
 rw [List.mem_flatten,<- jK];constructor
 .rintro ⟨L,hL,hd⟩
  obtain ⟨j,hj⟩:=List.mem_iff_getElem?.1 hL;rw [Aq hj] at hd;exact (List.mem_filter.1 hd).1
 .intro hd
  refine ⟨_,List.mem_map.2 ⟨gU l d,List.mem_range.2 (p_ hd),rfl⟩,List.mem_filter.2 ⟨hd,by simp⟩⟩
theorem oS {c:Dt->Nat}:∀ (R:List (List Dt)) (b:Nat),(∀ j L,R[j]? =some L->∀ d,d∈L->c d=b+j)->∀ A x B,R.flatten=A++x::B->∀ t,t∈R.flatten->c t<c x->t∈A
 | [],_,_,A,x,B,h,t,ht,_=>by simp at ht
 | L ::R,b,hR,A,x,B,h,t,ht,hlt=>by
  rw [List.flatten_cons] at h ht;have h0:=hR 0 L rfl;have hR':∀ j M,R[j]? =some M->∀ d,d∈M->c d=(b+1)+j:=λ j M hj d hd=>by
   have:=hR (j+1) M hj d hd;omega
  have hge:∀ d,d∈R.flatten->b<c d:=λ d hd=>by
   obtain ⟨M,hM,hd⟩:=List.mem_flatten.1 hd;obtain ⟨j,hj⟩:=List.mem_iff_getElem?.1 hM;have:=hR' j M hj d hd;omega
  rcases List.append_eq_append_iff.1 h with ⟨C,e1,e2⟩ | ⟨C,e1,e2⟩
  ·
   rw [e1];rcases List.mem_append.1 ht with ht | ht
   .exact List.mem_append.2 (.inl ht)
   .exact List.mem_append.2 (.inr (oS R (b+1) hR' C x B e2 t ht hlt))
  ·
   have hx:x∈L\/(C=[]/\x∈R.flatten):=by
    cases C with
    | nil=>exact .inr ⟨rfl,by rw [List.nil_append] at e2;rw [<- e2];simp⟩
    | cons y C=>
     rw [List.cons_append] at e2;injection e2 with e3 e4;exact .inl (by rw [e1,e3];simp)
   rcases hx with hx | ⟨hC,hx⟩
   .have hcx:=h0 x hx
    rcases List.mem_append.1 ht with ht | ht
    .have:=h0 t ht;omega
    .have:=hge t ht;omega
   .subst hC
    rw [List.append_nil] at e1;rw [List.nil_append] at e2;rw [<- e1];rcases List.mem_append.1 ht with ht | ht
    .exact ht
    .have:=oS R (b+1) hR' [] x B (by rw [<- e2];rfl) t ht hlt
     cases this
noncomputable def rZ (l:List ag):KM:=Jl (bX l) (jf (kR l)) (mF l).flatten
theorem Jm (l:List ag):VI (HD l) (kR l) (mF l).flatten (rZ l):=by
 have:=Hi (dh:=bX l) (gv:=HD l) (ds:=kR l) (L:=(mF l).flatten) (λ d hd=>rU (oR.1 hd)) (λ A x B e t ht=>by
  have hlt:=qe ht;refine ⟨oS (c:=gU l) (mF l) 0 (λ j L hj d hd=> ?_) A x B e t (oR.2 (nY ht)) hlt,λ e=>by rw [e] at hlt;omega⟩;rw [Aq hj] at hd;have:=of_decide_eq_true (List.mem_filter.1 hd).2;omega) (Bz l) _ (Nat.le_refl _)
 rw [List.take_length] at this;exact this
theorem Ar (l:List ag)(d:Dt):(rZ l).get d=Hj l d:=by
 rw [(Jm l).get];unfold Hj
 by_cases h:dY l d=true
 .rw [if_pos (oR.2 h),if_pos h]
 .rw [if_neg (λ h2=>h (oR.1 h2)),if_neg h]
end
section
attribute [local irreducible] SW RW aJ SC ai an iN yU
abbrev yS (K:KM):Ob:= .map (ah Dt.cells kv K.m) K.c
theorem Hl (K:KM)(x:Dt):SB Tryz.prog verdict_hits_1.f [.agg x.cells,.ptr 1 0] [(1,.box 76 [.mp 0]),(0,yS K)] 2 0 λ r F=>r=bl (!decide (K.get x=2))/\F=[(1,.box 76 [.mp 0]),(0,yS K)]:=by
 refine verdict_hits_1.enter (by simp [SV.ay,SV.ok,Dt.aq]) (by simp [Hp.ok,Ob.ok,SV.ay,SV.ok,fC]) (by simp) ?_;dsimp only [verdict_hits_1.s,Co.M,Co.J,Co.F,Co.B,Co.b8,Co.T,Co.K,Co.x,Co.S];have hlk:=uu K.m x;change _=SV.d (.int .u8 ((K.get x:Nat):Int)) at hlk;have g2:(((K.get x:Nat):Int) != 2)= !decide (K.get x=2):=by
  by_cases h:K.get x=2
  .rw [h];rfl
  .have:((K.get x:Nat):Int)≠2:=by omega
   simp [h,this]
 refine SW.seq (SW.g0 [0,1,2,3] Zm af ?_);refine SW.seq (SW.g0 [0,1,2,3] Zm (Zq hlk g2) ?_);refine SW.ret ?_;exact End.mk [(1,.box 76 [.mp 0]),(0,yS K)] (h4:=⟨rfl,rfl⟩) (h6:=by simp [Hp.ok,Ob.ok,SV.ay,SV.ok,fC])
abbrev NL (K:KM):Hp:=[(5,.box 76 [.mp 4]),(4,yS K)]
theorem Ho (K:KM)(x:Dt)(k:Nat):aJ Tryz.prog verdict_hits_1.f [.agg x.cells,.ptr 5 0] (NL K) k 0 (bl (!decide (K.get x=2))) (NL K):=by
 have:=SB.nM [4,5] (Hl K x) (by decide) (λ i hi=>by
  match i,hi with
  | 0,_ | 1,_=>simp [aa]) k
 simpa [SV.aQ,SV.aA,ff,Dt.ax,Hp.aA,Ob.aA,iF] using this
theorem Jn (K:KM)(B:Nat):s_ (σ:=Unit) Tryz.prog verdict_hits_1.f [] [.ptr 5 0] (λ _=>NL K) (λ _ x=>((),!decide (K.get x=2))) 0 (λ _ _=>True) (λ _=>True) B where
 nd s:=by simp
 nm s x:=rfl
 nx _ _ _ _ _ _:=trivial
 ok s x q h:=h
 call i s x k _ _ _ _:=Ho K x k
 a1 s q h:=by
  simp only [Hp.ok,List.all_cons,Bool.and_eq_true] at h;exact ⟨rfl,by simp [SV.ay,SV.ok,h.1.1]⟩
theorem r6 (p:Dt->Bool):∀ L:List Dt,dZ (λ (_:Unit) x=>((),!p x)) () L=(L.filter p,())
 | []=>rfl
 | x::L=>by
  simp only [dZ];rw [r6 p L];cases h:p x <;> simp [h]
theorem BA (K:KM)(L:List Dt)(hL:L.length<1000000000):aJ Tryz.prog slices_DeleteFunc_Lapi_Dot_api_Dot.f [.gs 12 L.length,.fn (.func verdict_hits_1.f) [] [.ptr 5 0]] ((12,l9 L 12)::NL K) 13 (L.length*0+L.length*(0+1))
  (.gs 12 (L.filter λ t=>decide (K.get t=2)).length) ((12,l9 (L.filter λ t=>decide (K.get t=2)) 12)::NL K):=by
 have:=vE (Jn K L.length) L () hL (Nat.le_refl _) (λ _ _=>trivial) trivial 12 13 (by decide) ⟨rfl,by simp [Hp.ok,Ob.ok,SV.ay,SV.ok,fC],by simp [aa,bD]⟩ (by simp [Hp.ok,Ob.ok,SV.ay,SV.ok,fC,aa]);rw [r6 (λ t=>decide (K.get t=2)) L] at this;exact this
theorem Jo (X:Ix)(hX:X.small)(d:Dt)(hh:MM.has X.ops d=true)(k:Nat):aJ Tryz.prog revoke_Index_Threats.f [.ptr 0 0,.agg d.cells] X.h0 k 6 (.eu [.gs (k+5) (X.bL d).length,i64 0]) ((k+5,l9 (X.bL d) 9)::X.h0):=by
 have:=SB.nM [0,1,2,3] (Hg X hX d hh) (by decide) X.Nj k;simp [SV.aQ,SV.aA,ff,Dt.ax,Hp.aA,Ob.aA,bA,dA,SV.eE] at this;rw [Nat.add_comm 5 k] at this;exact this
set_option maxHeartbeats 4000000 in
theorem Jp (X:Ix)(hX:X.small)(K:KM)(d:Dt)(hh:MM.has X.ops d=true)(hT:(X.bL d).length<1000000000):SB Tryz.prog verdict_hits.f [.ptr 0 0,.mp 4,.agg d.cells] ((4,yS K)::X.h0) 5 8
  λ r F=>r= .gs 12 (vM X.bL K d).length/\F=(12,l9 (vM X.bL K d) 12)::(4,yS K)::X.h0:=by
 refine verdict_hits.enter (by simp [SV.ay,SV.ok,Dt.aq]) (ak (by simp) (fC _ _) (X.tT (by decide))) (by simp) ?_;dsimp only [verdict_hits.s,Co.M,Co.J,Co.F,Co.K,Co.E,Co.Q,Co.x,Co.S];have cT:aJ Tryz.prog revoke_Index_Threats.f [.ptr 0 0,.agg d.cells] X.h0 7 6 (.eu [.gs 12 (X.bL d).length,i64 0]) ((12,l9 (X.bL d) 9)::X.h0):=Jo X hX d hh 7;have cD:=BA K (X.bL d) hT;unfold vM;generalize X.bL d=L at cT cD hT ⊢;refine SW.seq (SW.g0 [0,1,2,4,5,6,7] Zm af ?_);refine SW.seq (SW.g1 [0,1,2,4,5,6,7] Zm af cT ?_);refine SW.seq (SW.g1 [0,1,2,4,5,6,7] Zm af cD ?_);refine SW.ret ?_;generalize (L.filter λ t=>decide (K.get t=2))=R;exact End.mk ((12,l9 R 12)::(4,yS K)::X.h0) (h4:=⟨rfl,rfl⟩) (h6:=ak (by simp) (SV.bg _) (ak (by simp) (fC _ _) (X.tT (by decide))))
end
section
attribute [local irreducible] SW RW aJ SC ai an iN yU
abbrev vH (X:Ix)(K:KM):Hp:=(15,yS K)::X.JX
theorem tG (X:Ix)(K:KM){k:Nat}(hk:16<=k):(vH X K).ok (λ n=>decide (n<k))=true:=
 ak (by simp;omega) (fC _ _) (ak (by simp;omega) (by simp [Ob.ok,SV.ay,SV.ok];omega) (ak (by simp;omega) (a_ _ _) (ak (by simp;omega) (dw _ _) (ak (by simp;omega) (dw _ _) rfl))))
theorem Hq (X:Ix)(K:KM):∀ y,y∈vH X K->lk (vH X K) y.1=some y.2:=λ y hy=>by
 simp only [List.mem_cons,List.not_mem_nil,or_false] at hy;rcases hy with rfl | rfl | rfl | rfl | rfl <;> rfl
theorem LR (X:Ix)(K:KM)(o:Ob):∀ y,y∈vH X K->lk ((16,o)::vH X K) y.1=some y.2:=λ y hy=>by
 simp only [List.mem_cons,List.not_mem_nil,or_false] at hy;rcases hy with rfl | rfl | rfl | rfl | rfl <;> rfl
theorem Jq (X:Ix)(hX:X.small)(K:KM)(d:Dt)(hh:MM.has X.ops d=true)(hT:(X.bL d).length<1000000000)(k:Nat):aJ Tryz.prog verdict_hits.f [.ptr 14 0,.mp 15,.agg d.cells] (vH X K) k 8 (.gs (k+7) (vM X.bL K d).length) ((k+7,l9 (vM X.bL K d) 12)::vH X K):=by
 have:=SB.nM [14,11,12,13,15] (Jp X hX K d hh hT) (by decide) (λ i hi=>by
  match i,hi with
  | 0,_ | 1,_ | 2,_ | 3,_ | 4,_=>simp [aa]) k
 generalize vM X.bL K d=R at this ⊢;simp [SV.aQ,SV.aA,ff,Dt.ax,Hp.aA,Ob.aA,bA,dA,iF,SV.eE] at this;rw [Nat.add_comm 7 k] at this;exact this
theorem Hr {X:Ix}(hX:X.small)(h9:∀ d,X.kI d<=9)(k:Nat):aJ Tryz.prog revoke_Index_Levels.f [.ptr 14 0] X.JX k xG (gV X.mF) X.JX:=Ix.Ou (GA X hX h9) (λ k=>by simp [SV.aQ,SV.aA,ff]) (λ k=>by simp [gV,SV.aA]) k
theorem Hs (l:List ag):(ko l).length<=l.length:=by
 unfold ko;refine Nat.le_trans (Dt.yJ _) ?_;unfold Ac;rw [List.length_map];exact List.length_filter_le _ _
theorem jr {R:List (List Dt)}{j:Nat}{L:List Dt}(h:R[j]? =some L):(R.take (j+1)).flatten=(R.take j).flatten++L:=by rw [dB h,List.flatten_append];simp
set_option maxHeartbeats 16000000 in
theorem LS (l:List ag)(hl:l.length<=80)(hrow:l_ l):SB Tryz.prog verdict_all.f [ops l] [] 0 16 λ r F=>∃ S,∃ h:bS l S,r= .eu [.mp 15,.ptr 14 0]/\F=vH h.X (rZ l):=by
 refine verdict_all.enter (by first | rfl | simp [SV.ok,SV.ay]) (by first | rfl | simp [Hp.ok,Ob.ok,SV.ok,SV.ay,aD.aq]) (by simp) ?_;dsimp only [verdict_all.s,Co.M,Co.J,Co.N,Co.F,Co.Z,Co.b8,Co.aB,Co.T,Co.K,Co.L,Co.P,Co.R,Co.W,Co.Y,Co.V,Co.I,Co.S];refine SW.seq (SW.g0 [0,2,3,4,5,6,8,9,10,12,19,20,21,22,31,32,33,38,39,40,41,51] Zm af ?_);refine SW.seq (SW.tP ?_);(repeat (first | refine aV.op af (h:= ?_) | refine aV.dQ af (h:= ?_) | refine aV.skip (h:= ?_)));refine aV.bC (K8 l (by omega) (λ o ho=>⟨(hrow o ho).1,(hrow o ho).2.1⟩)) (HSub.nil _) (h:= ?_);rintro _ _ ⟨S,h,rfl,rfl⟩;simp only [bR,cg,cq,gh,gf,cE,lk,List.lookup,Nat.reduceBEq,BEq.rfl,beq_self_eq_true,if_true,if_false,reduceIte,Nat.reduceEqDiff,Bool.false_eq_true,Option.isSome_some,Option.isSome_none,Nat.reduceAdd];(repeat (first | refine aV.op af (h:= ?_) | refine aV.dQ af (h:= ?_) | refine aV.skip (h:= ?_)));refine aV.nil ?_;have cN:=h.Oy hl (h.short hrow);have cD:=h.Bb hl;have hsm:=h.small hl;have hT:=h.GU hl;have eT:=h.uw;have hhas:∀ d,MM.has h.X.ops d=dY l d:=λ d=>by rw [h.Gu,h.vC]
 have h9:∀ d,h.X.kI d<=9:=λ d=>by have:=h.Aj d;omega
 have cL:=Hr hsm h9;rw [h.OC] at cL;have hc9:∀ v,v∈ko l->gU l v<=9:=λ v hv=>by
  have hg:S.good v=true:=by rw [h.vC];exact jK.1 hv
  rw [<- h.J7 hg];exact h9 v
 have hRl:(mF l).length<=10:=by
  unfold mF;rw [List.length_map,List.length_range];exact s9 λ v hv=>by have:=hc9 v hv;omega
 have hRs:∀ L,L∈mF l->Dt.set L=L/\L.length<=80/\∀ d,d∈L->dY l d=true:=λ L hL=>by
  refine ⟨GB hL,?_,λ d hd=>oR.1 (List.mem_flatten.2 ⟨L,hL,hd⟩)⟩;obtain ⟨j,_,rfl⟩:=List.mem_map.1 hL;have h2:=List.length_filter_le (λ v=>decide (gU l v=j)) (ko l);have h3:=Hs l;omega
 have hds:(kR l).length<=80:=h.j6 hl;have hV:rZ l=Jl (bX l) (jf (kR l)) (mF l).flatten:=rfl;refine SW.seq (SW.g1 [0,2,3,4,5,6,8,9,10,12,19,20,21,22,31,32,33,38,39,40,41,51] Zm af cN ?_);refine SW.seq (SW.g0 [0,2,3,4,5,6,8,9,10,12,19,20,21,22,31,32,33,38,39,40,41,51] Zm af ?_);refine SW.seq (SW.seq (SW.g1 [0,2,3,4,5,6,8,9,10,12,19,20,21,22,31,32,33,38,39,40,41,51] Zm af cD ?_));obtain ⟨X,eX⟩:∃ X,h.X=X:=⟨_,rfl⟩;rw [eX] at hsm hT eT h9 cL;simp only [eX] at hhas;obtain ⟨D,eD⟩:∃ D,kR l=D:=⟨_,rfl⟩;rw [eD] at hV hds;obtain ⟨R,eR⟩:∃ R,mF l=R:=⟨_,rfl⟩;rw [eR] at hV hRl hRs cL;simp only [eX,eD];refine SW.block (SW.loop (α:={i:Nat // i<=D.length}) (λ i=>⟨[(21,i64 i.1),(20,i64 D.length),(19,bq D),(6,.mp 15),(5,.ptr 14 0)],vH X (jf (D.take i.1)),16⟩) (λ i=>D.length - i.1) ⟨0,Nat.zero_le _⟩ id (aI.same (Nat.zero_le _) (by simp [aL,List.lookup,SV.aA,SV.ok,SV.ay]) (tG _ _ (Nat.le_refl _)) (λ y hy=> ?_)) ?_)
 .simp only [List.mem_cons,List.not_mem_nil,or_false] at hy
  rcases hy with rfl | rfl | rfl | rfl | rfl <;> rfl
 rintro ⟨i,hi⟩;dsimp only
 by_cases hik:i<D.length
 .have h1:decide ((i:Int)<D.length)=true:=by simp only [decide_eq_true_eq];omega
  obtain ⟨d,hx⟩:=aZ hik;have e2:IntKind.i64.wrap ((i:Int)+1)=((i+1:Nat):Int):=wrap_i64 _ (by omega);have hz:=vN (D.take i) d;rw [<- dB hx] at hz;generalize jf (D.take i)=K at hz ⊢;have m0:iZ (ah Dt.cells kv K.m) K.c (.agg d.cells) (.d (.int .u8 0)) (MM.idx K.m d)= .map (ah Dt.cells kv (K.put d 0).m) (K.put d 0).c:=rR K.m K.c d 0;dsimp only [vH,Ix.JX,yS];refine SW.seq (SW.g0 [0,2,3,4,5,6,8,9,10,12,19,20,21,22,31,32,33,38,39,40,41,51] Zm h1 ?_);refine SW.seq (SW.aj rfl (SW.skip (SW.seq (SW.block (SW.seq (SW.g0 [0,2,3,4,5,6,8,9,10,12,19,20,21,22,31,32,33,38,39,40,41,51] Zm (Zq (iq hx) (kQ hx)) ?_))))));refine SW.g0 [0,2,3,4,5,6,8,9,10,12,19,20,21,22,31,32,33,38,39,40,41,51] Zm m0 ?_;refine SW.g0 [0,2,3,4,5,6,8,9,10,12,19,20,21,22,31,32,33,38,39,40,41,51] Zm e2 ?_;refine ⟨⟨i+1,by omega⟩,id,by show D.length - (i+1)<D.length - i;omega,?_⟩;dsimp only;rw [hz];exact aI.same (Nat.zero_le _) (by simp [aL,List.lookup,SV.aA,SV.ok,SV.ay]) (tG _ _ (Nat.le_refl _)) (LR X _ _)
 have h1:decide ((i:Int)<D.length)=false:=by simp only [decide_eq_false_iff_not];omega
 rw [List.take_of_length_le (show D.length<=i by omega)];refine SW.seq (SW.g0 [0,2,3,4,5,6,8,9,10,12,19,20,21,22,31,32,33,38,39,40,41,51] Zm h1 ?_);refine SW.seq (SW.au rfl (SW.exit ?_));refine (?_:Sl.SW _ _ _ _ _ _);refine SW.seq (SW.g1 [0,2,3,4,5,6,8,9,10,12,19,20,21,22,31,32,33,38,39,40,41,51] Zm af cL ?_);refine SW.seq (SW.seq ?_);simp only [gV];refine SW.g0 [0,2,3,4,5,6,8,9,10,12,19,20,21,22,31,32,33,38,39,40,41,51] Zm af ?_;refine SW.block (SW.loop (α:={k:Nat // k<=R.length}) (λ k=>⟨[(32,i64 k.1),(31,i64 R.length),(9,gV R),(6,.mp 15),(5,.ptr 14 0)],vH X (Jl (bX l) (jf D) (R.take k.1).flatten),16⟩) (λ k=>R.length - k.1) ⟨0,Nat.zero_le _⟩ id (aI.same (Nat.zero_le _) (by simp [aL,List.lookup,SV.aA,SV.ok,SV.ay,gV]) (tG _ _ (Nat.le_refl _)) (Hq X _)) ?_);rintro ⟨k,hk⟩;dsimp only
 by_cases hkk:k<R.length
 .have h1:decide ((k:Int)<R.length)=true:=by simp only [decide_eq_true_eq];omega
  obtain ⟨L,hx⟩:=aZ hkk;have e2:IntKind.i64.wrap ((k:Int)+1)=((k+1:Nat):Int):=wrap_i64 _ (by omega);obtain ⟨hL1,hL80,hLg⟩:=hRs L (List.mem_of_getElem? hx);have g1:(List.map SV.d (R.map λ L=>HB (Dt.set L)))[k]? =some (bq L):=by
   have:(List.map SV.d (R.map λ L=>HB (Dt.set L)))[k]? =some (.d (HB (Dt.set L))):=by rw [List.getElem?_map,List.getElem?_map,hx];rfl
   rw [this,hL1];rfl
  have hft:=jr hx;simp only [gV];refine SW.seq ?_;refine SW.g0 [0,2,3,4,5,6,8,9,10,12,19,20,21,22,31,32,33,38,39,40,41,51] Zm h1 ?_;refine SW.seq (SW.aj rfl (SW.skip ?_));refine SW.seq (SW.block (SW.seq ?_));refine SW.g0 [0,2,3,4,5,6,8,9,10,12,19,20,21,22,31,32,33,38,39,40,41,51] Zm af ?_;refine SW.seq ?_;refine SW.g0 [0,2,3,4,5,6,8,9,10,12,19,20,21,22,31,32,33,38,39,40,41,51] Zm g1 ?_;refine SW.block ?_;refine SW.loop (α:={i:Nat // i<=L.length}) (λ i=>⟨[(40,i64 i.1),(39,i64 L.length),(38,bq L),(32,i64 k),(31,i64 R.length),(9,gV R),(6,.mp 15),(5,.ptr 14 0)],vH X (Jl (bX l) (jf D) ((R.take k).flatten++L.take i.1)),16⟩) (λ i=>L.length - i.1) ⟨0,Nat.zero_le _⟩ id (by
   dsimp only;rw [List.take_zero,List.append_nil];exact aI.same (Nat.zero_le _) (by simp [aL,List.lookup,SV.aA,SV.ok,SV.ay,gV]) (tG _ _ (Nat.le_refl _)) (Hq X _)) ?_
  rintro ⟨i,hi⟩;dsimp only
  by_cases hil:i<L.length
  .have h3:decide ((i:Int)<L.length)=true:=by simp only [decide_eq_true_eq];omega
   obtain ⟨d,hd⟩:=aZ hil;have e4:IntKind.i64.wrap ((i:Int)+1)=((i+1:Nat):Int):=wrap_i64 _ (by omega);have hh:MM.has X.ops d=true:=by rw [hhas];exact hLg d (List.mem_of_getElem? hd)
   have hvs:=Ao (bX l) (jf D) ((R.take k).flatten++L.take i) d;rw [List.append_assoc,<- dB hd] at hvs;generalize Jl (bX l) (jf D) ((R.take k).flatten++L.take i)=K at hvs ⊢;have m2:iZ (ah Dt.cells kv K.m) K.c (.agg d.cells) (.d (.int .u8 2)) (MM.idx K.m d)= .map (ah Dt.cells kv (K.put d 2).m) (K.put d 2).c:=rR K.m K.c d 2;have m1:iZ (ah Dt.cells kv (K.put d 2).m) (K.put d 2).c (.agg d.cells) (.d (.int .u8 1)) (MM.idx (K.put d 2).m d)= .map (ah Dt.cells kv ((K.put d 2).put d 1).m) ((K.put d 2).put d 1).c:=rR (K.put d 2).m (K.put d 2).c d 1;have cH:=Jq X hsm (K.put d 2) d hh (hT d) 17;rw [eT] at cH;unfold An at hvs;generalize K.put d 2=K2 at m2 m1 cH hvs;generalize K2.put d 1=K3 at m1 hvs;generalize vM (bX l) K2 d=H at cH hvs;dsimp only [vH,Ix.JX,yS] at cH ⊢;refine SW.seq (SW.g0 [0,2,3,4,5,6,8,9,10,12,19,20,21,22,31,32,33,38,39,40,41,51] Zm h3 ?_);refine SW.seq (SW.aj rfl (SW.skip (SW.seq (SW.block (SW.seq (SW.g0 [0,2,3,4,5,6,8,9,10,12,19,20,21,22,31,32,33,38,39,40,41,51] Zm (Zq (iq hd) (kQ hd)) ?_))))));refine SW.seq (SW.g0 [0,2,3,4,5,6,8,9,10,12,19,20,21,22,31,32,33,38,39,40,41,51] Zm m2 ?_);refine SW.seq ?_
   by_cases hc:H.length>0
   .have c1:decide ((H.length:Int)>0)=true:=by simp only [decide_eq_true_eq];omega
    rw [if_pos hc] at hvs;refine SW.g1 [0,2,3,4,5,6,8,9,10,12,19,20,21,22,31,32,33,38,39,40,41,51] Zm c1 cH ?_;refine SW.aj rfl ?_;refine SW.g0 [0,2,3,4,5,6,8,9,10,12,19,20,21,22,31,32,33,38,39,40,41,51] Zm m1 ?_;refine SW.g0 [0,2,3,4,5,6,8,9,10,12,19,20,21,22,31,32,33,38,39,40,41,51] Zm e4 ?_;refine ⟨⟨i+1,by omega⟩,id,by show L.length - (i+1)<L.length - i;omega,?_⟩;dsimp only;rw [hvs];exact aI.same (Nat.zero_le _) (by simp [aL,List.lookup,SV.aA,SV.ok,SV.ay,gV]) (tG _ _ (Nat.le_refl _)) (λ y hy=>by
     simp only [List.mem_cons,List.not_mem_nil,or_false] at hy;rcases hy with rfl | rfl | rfl | rfl | rfl <;> rfl)
   .have c1:decide ((H.length:Int)>0)=false:=by simp only [decide_eq_false_iff_not];omega
    rw [if_neg hc] at hvs;refine SW.g1 [0,2,3,4,5,6,8,9,10,12,19,20,21,22,31,32,33,38,39,40,41,51] Zm c1 cH ?_;refine SW.au rfl (SW.skip ?_);refine SW.g0 [0,2,3,4,5,6,8,9,10,12,19,20,21,22,31,32,33,38,39,40,41,51] Zm e4 ?_;refine ⟨⟨i+1,by omega⟩,id,by show L.length - (i+1)<L.length - i;omega,?_⟩;dsimp only;rw [hvs];exact aI.same (Nat.zero_le _) (by simp [aL,List.lookup,SV.aA,SV.ok,SV.ay,gV]) (tG _ _ (Nat.le_refl _)) (λ y hy=>by
     simp only [List.mem_cons,List.not_mem_nil,or_false] at hy;rcases hy with rfl | rfl | rfl | rfl | rfl <;> rfl)
  have h3:decide ((i:Int)<L.length)=false:=by simp only [decide_eq_false_iff_not];omega
  rw [List.take_of_length_le (show L.length<=i by omega),<- hft];refine SW.seq (SW.g0 [0,2,3,4,5,6,8,9,10,12,19,20,21,22,31,32,33,38,39,40,41,51] Zm h3 ?_);refine SW.seq (SW.au rfl (SW.exit ?_));refine (?_:Sl.SW _ _ _ _ _ _);refine SW.g0 [0,2,3,4,5,6,8,9,10,12,19,20,21,22,31,32,33,38,39,40,41,51] Zm e2 ?_;refine ⟨⟨k+1,by omega⟩,id,by show R.length - (k+1)<R.length - k;omega,?_⟩;exact aI.same (Nat.zero_le _) (by simp [aL,List.lookup,SV.aA,SV.ok,SV.ay,gV]) (tG _ _ (Nat.le_refl _)) (Hq X _)
 have h3:decide ((k:Int)<R.length)=false:=by simp only [decide_eq_false_iff_not];omega
 rw [List.take_of_length_le (show R.length<=k by omega),<- hV];refine SW.seq (SW.g0 [0,2,3,4,5,6,8,9,10,12,19,20,21,22,31,32,33,38,39,40,41,51] Zm h3 ?_);refine SW.seq (SW.au rfl (SW.exit ?_));refine (?_:Sl.SW _ _ _ _ _ _);refine SW.seq (SW.g0 [0,2,3,4,5,6,8,9,10,12,19,20,21,22,31,32,33,38,39,40,41,51] Zm af ?_);refine SW.ret ?_;exact End.mk (vH X (rZ l)) (h4:=⟨S,h,rfl,by rw [eX]⟩) (h6:=tG _ _ (Nat.le_refl _))
theorem LU (l:List ag)(hl:l.length<=80)(hrow:l_ l):SC Tryz.prog verdict_all.f [ops l] [] 0 16 λ r F=>∃ S,∃ h:bS l S,r= .eu [.mp 15,.ptr 14 0]/\F=vH h.X (rZ l):=
 (LS l hl hrow).here (λ _=>false) (λ n h=>by cases h) rfl rfl λ r F _ h1 h2=>⟨SV.eW (λ n hn=>by simpa using hn) _ h1,Hp.dH (λ n hn=>by simpa using hn) h2⟩
set_option maxHeartbeats 4000000 in
theorem NM (l:List ag)(hl:l.length<=80)(hrow:l_ l):SB Tryz.prog verdict_Of.f [ops l] [] 0 1 λ r F=>r= .mp 0/\F=[(0,yS (rZ l))]:=by
 refine verdict_Of.enter (by first | rfl | simp [SV.ok,SV.ay]) (by first | rfl | simp [Hp.ok,Ob.ok,SV.ok,SV.ay,aD.aq]) (by simp) ?_;dsimp only [verdict_Of.s,Co.M,Co.J,Co.F,Co.E,Co.P,Co.S];refine SW.seq (SW.g0 [0,2,3] Zm af ?_);refine SW.seq (SW.tP ?_);(repeat (first | refine aV.op af (h:= ?_) | refine aV.dQ af (h:= ?_) | refine aV.skip (h:= ?_)));refine aV.bC (LU l hl hrow) (HSub.nil _) (h:= ?_);rintro _ _ ⟨S,h,rfl,rfl⟩;simp only [bR,cg,cq,gh,gf,cE,lk,List.lookup,Nat.reduceBEq,BEq.rfl,beq_self_eq_true,if_true,if_false,reduceIte,Nat.reduceEqDiff,Bool.false_eq_true,Option.isSome_some,Option.isSome_none,Nat.reduceAdd];(repeat (first | refine aV.op af (h:= ?_) | refine aV.dQ af (h:= ?_) | refine aV.skip (h:= ?_)));refine aV.nil ?_;refine SW.weak (λ n=>if n=0 then 15 else n) (st1:=⟨[(3,.mp 0)],[(0,yS (rZ l))],1⟩) ?_ ?_
 .refine ⟨Nat.zero_le _,λ n hn=>absurd hn (Nat.not_lt_zero n),?_,?_,?_⟩
  .simp [aL,List.lookup,SV.aA,SV.ok]
  .simp [uK,aa,Ob.aA,Ob.ok,iF,fC]
  .intro a ha b hb e
   simp only [List.map_cons,List.map_nil,List.mem_singleton] at ha hb;rw [ha,hb]
 refine SW.seq (SW.g0 [0,2,3] Zm af ?_);refine SW.ret ?_;exact End.mk [(0,yS (rZ l))] (h4:=⟨rfl,rfl⟩) (h6:=ak (by simp) (fC _ _) rfl)
theorem Kf (l:List ag)(hl:l.length<=80)(hrow:l_ l)(k:Nat):aJ Tryz.prog verdict_Of.f [ops l] [] k 1 (.mp k) [(k,yS (rZ l))]:=by
 have:=SB.new (NM l hl hrow) k
 simpa [SV.aA,ff,Hp.aA,Ob.aA,iF] using this
end
end Go.Proofs.YtaelhkkjgfobhaaGreat
namespace Go.Proofs.YtaelhkkjgfobhaaGreat
open Go.Sl Go.Proofs
section
attribute [local irreducible] SW RW aJ SC ai an
def oT (l:List ag)(v:aD):List ag:=l.filter λ o=>v.aF o.dot
theorem DO (l:List ag)(v:aD)(x:ag):oT (l++[x]) v=if v.aF x.dot then oT l v++[x] else oT l v:=by
 unfold oT;rw [List.filter_append]
 by_cases h:v.aF x.dot=true
 .rw [if_pos h];simp [h]
 .rw [if_neg h];simp [h]
theorem As (l:List ag)(v:aD):(oT l v).length<=l.length:=List.length_filter_le _ _
abbrev Jr (l:List ag):List SV:=List.map SV.d (l.flatMap ag.ds)
set_option maxHeartbeats 4000000 in
theorem Js (l:List ag)(hl:l.length<1000000)(v:aD):Go.Sl.Pure Tryz.prog ref10_Cut.f [ops l,.agg v.cells] (ops (oT l v)):=by
 refine ref10_Cut.enter (by first | rfl | simp [SV.ok,SV.ay]) (by first | rfl | simp [Hp.ok,Ob.ok,SV.ok,SV.ay,aD.aq]) (by simp) ?_;dsimp only [ref10_Cut.s,Co.M,Co.J,Co.F,Co.Z,Co.bW,Co.K,Co.L,Co.Q,Co.x,Co.Y,Co.V,Co.D,Co.I,Co.S];refine SW.seq ?_
 (refine SW.dL [0,1,3,4,5,6,10,19] Zm ?_;(repeat (first | refine RW.ro af (h:= ?_) | refine RW.skip (h:= ?_) | refine RW.op af (h:= ?_) | refine RW.dQ af (h:= ?_) | refine RW.bF (h:= ?_) | refine vI rfl rfl (h:= ?_)));refine RW.nil ⟨dI (by kernel_rfl),an.mk (h:= ?_)⟩)
 refine SW.seq ?_
 (refine SW.dL [0,1,3,4,5,6,10,19] Zm ?_;(repeat (first | refine RW.ro af (h:= ?_) | refine RW.skip (h:= ?_) | refine RW.op af (h:= ?_) | refine RW.dQ af (h:= ?_) | refine RW.bF (h:= ?_) | refine vI rfl rfl (h:= ?_)));refine RW.nil ⟨dI (by kernel_rfl),an.mk (h:= ?_)⟩)
 refine SW.oD 5 43 29 rfl ?_;refine SW.seq (SW.seq ?_)
 (refine SW.dL [0,1,3,4,5,6,10,19] Zm ?_;(repeat (first | refine RW.ro af (h:= ?_) | refine RW.skip (h:= ?_) | refine RW.op af (h:= ?_) | refine RW.dQ af (h:= ?_) | refine RW.bF (h:= ?_) | refine vI rfl rfl (h:= ?_)));refine RW.nil ⟨dI (by kernel_rfl),an.mk (h:= ?_)⟩)
 refine SW.block (SW.jU (α:={i:Nat // i<=l.length}) (λ i=>⟨[(6,i64 i.1),(5,.gs 1 (oT (l.take i.1) v).length),(3,.ptr 0 0),(0,ops l)],[(1,.arr 43 29 (oT (l.take i.1) v).length (Jr (oT (l.take i.1) v))),(0,.box 39 v.cells)],2⟩) (λ i=>l.length - i.1) ⟨0,by omega⟩ id (Zq (show oT [] v=[] from rfl) af) (round:= ?_));rintro ⟨i,hi⟩;dsimp only;refine SW.seq (SW.seq ?_)
 by_cases h:i<l.length
 .have h1:decide ((i:Int)<l.length)=true:=by simp only [decide_eq_true_eq];omega
  obtain ⟨x,hx⟩:=aZ h;have e2:IntKind.i64.wrap ((i:Int)+1)=((i+1:Nat):Int):=wrap_i64 _ (by omega);have e1:l.take (i+1)=l.take i++[x]:=dB hx;have hsn:=DO (l.take i) v x;rw [<- e1] at hsn;have hlen:=As (l.take i) v;rw [List.length_take] at hlen;generalize oT (l.take i) v=T at hsn hlen ⊢;have hc:=λ k=>nS v x.dot k
  (refine SW.dL [0,1,3,4,5,6,10,19] Zm ?_;(repeat (first | refine RW.ro h1 (h:= ?_) | refine RW.skip (h:= ?_) | refine RW.op h1 (h:= ?_) | refine RW.dQ h1 (h:= ?_) | refine RW.bF (h:= ?_) | refine vI rfl rfl (h:= ?_)));refine RW.nil ⟨dI (by kernel_rfl),an.mk (h:= ?_)⟩)
  refine SW.aj rfl (SW.skip (SW.seq (SW.block (SW.seq ?_))));rcases hz:v.aF x.dot with _ | _ <;> rw [hz] at hc hsn
  .rw [if_neg (by decide)] at hsn
   (have fx:=(Zq (lW hx) (jW hx));refine SW.dL [0,1,3,4,5,6,10,19] Zm ?_;(repeat (first | refine RW.ro fx (h:= ?_) | refine RW.skip (h:= ?_) | refine RW.op fx (h:= ?_) | refine RW.dQ fx (h:= ?_) | refine RW.bF (h:= ?_) | refine vI rfl rfl (h:= ?_) | (refine RW.bC (h:= ?_);(first | refine ai.mk fx (hc:=hc _) (h:= ?_)))));refine RW.nil ⟨dI (by kernel_rfl),an.mk (h:= ?_)⟩)
   refine SW.au rfl (SW.skip ?_)
   (refine SW.dL [0,1,3,4,5,6,10,19] Zm ?_;(repeat (first | refine RW.ro e2 (h:= ?_) | refine RW.skip (h:= ?_) | refine RW.op e2 (h:= ?_) | refine RW.dQ e2 (h:= ?_) | refine RW.bF (h:= ?_) | refine vI rfl rfl (h:= ?_)));refine RW.nil ⟨dI (by kernel_rfl),an.mk (h:= ?_)⟩)
   refine ⟨⟨i+1,by omega⟩,id,by show l.length - (i+1)<l.length - i;omega,?_⟩;dsimp only;rw [hsn];exact aI.mk af
  .rw [if_pos rfl] at hsn
   (have fx:=(Zq (lW hx) (jW hx));refine SW.dL [0,1,3,4,5,6,10,19] Zm ?_;(repeat (first | refine RW.ro fx (h:= ?_) | refine RW.skip (h:= ?_) | refine RW.op fx (h:= ?_) | refine RW.dQ fx (h:= ?_) | refine RW.bF (h:= ?_) | refine vI rfl rfl (h:= ?_) | (refine RW.bC (h:= ?_);(first | refine ai.mk fx (hc:=hc _) (h:= ?_)))));refine RW.nil ⟨dI (by kernel_rfl),an.mk (h:= ?_)⟩)
   refine SW.aj rfl ?_
   (have fx:=(Zq (jl hx) (dO hx));refine SW.dL [0,1,3,4,5,6,10,19] Zm ?_;(repeat (first | refine RW.ro fx (h:= ?_) | refine RW.skip (h:= ?_) | refine RW.op fx (h:= ?_) | refine RW.dQ fx (h:= ?_) | refine RW.bF (h:= ?_) | refine vI rfl rfl (h:= ?_)));refine RW.nil ⟨dI (by kernel_rfl),an.mk (h:= ?_)⟩)
   (refine SW.dL [0,1,3,4,5,6,10,19] Zm ?_;(repeat (first | refine RW.ro e2 (h:= ?_) | refine RW.skip (h:= ?_) | refine RW.op e2 (h:= ?_) | refine RW.dQ e2 (h:= ?_) | refine RW.bF (h:= ?_) | refine vI rfl rfl (h:= ?_)));refine RW.nil ⟨dI (by kernel_rfl),an.mk (h:= ?_)⟩)
   have e5:(T++[x]).length=T.length+ [x].length:=by simp
   have e6:Jr (T++[x])=Jr T++List.map SV.d ([x].flatMap ag.ds):=by simp [Jr]
   refine ⟨⟨i+1,by omega⟩,λ n=>if n=1 then 2 else n,by show l.length - (i+1)<l.length - i;omega,?_⟩;dsimp only;rw [hsn,e5,e6];exact aI.mk af
 .have h1:decide ((i:Int)<l.length)=false:=by simp only [decide_eq_false_iff_not];omega
  have h2:i=l.length:=by omega
  subst h2;rw [List.take_length]
  (refine SW.dL [0,1,3,4,5,6,10,19] Zm ?_;(repeat (first | refine RW.ro h1 (h:= ?_) | refine RW.skip (h:= ?_) | refine RW.op h1 (h:= ?_) | refine RW.dQ h1 (h:= ?_) | refine RW.bF (h:= ?_) | refine vI rfl rfl (h:= ?_)));refine RW.nil ⟨dI (by kernel_rfl),an.mk (h:= ?_)⟩)
  refine SW.au rfl (SW.exit (SW.seq ?_))
  (refine SW.dL [0,1,3,4,5,6,10,19] Zm ?_;(repeat (first | refine RW.ro af (h:= ?_) | refine RW.skip (h:= ?_) | refine RW.op af (h:= ?_) | refine RW.dQ af (h:= ?_) | refine RW.bF (h:= ?_) | refine vI rfl rfl (h:= ?_)));refine RW.nil ⟨dI (by kernel_rfl),an.mk (h:= ?_)⟩)
  refine SW.freeze 1 ((oT l v).flatMap ag.ds) rfl rfl ?_;simp only [k_,SV.iB,List.map_cons,List.map_nil,if_true,if_false,reduceIte,cE,Nat.reduceEqDiff];refine SW.ret ?_;exact End.mk [] (h4:=⟨rfl,rfl⟩)
theorem Jt (l:List ag)(hl:l.length<1000000)(v:aD)(k:Nat):aJ Tryz.prog ref10_Cut.f [ops l,.agg v.cells] [] k 0 (ops (oT l v)) []:=(Js l hl v).sc rfl k
def PV (v w:aD):List SV:=v.cells++w.cells
theorem PV.len (v w:aD):(PV v w).length=16:=rfl
theorem PV.one (v w:aD):(PV v w).all SV.dJ=true:=rfl
theorem PV.t0 (v w:aD):List.take 8 (PV v w)=v.cells:=rfl
theorem PV.t8 (v w:aD):List.take 8 (List.drop 8 (PV v w))=w.cells:=rfl
theorem Ju {n:Int}{l:List ag}{v:aD}(h:yh n l)(ht:yh n (oT l v)):Part (oT l v) l:=by
 have hs:∀ o,o∈oT l v->o∈l:=λ o ho=>(List.mem_filter.1 ho).1
 refine ⟨h.uniq,h.uniq.sub List.filter_sublist,hs,λ o a ho ha hb=> ?_⟩;obtain ⟨x,hx,e⟩:=ht.there ho (d:=a.dot) hb;rw [<- h.uniq.inj (hs x hx) ha e];exact hx
end
section
section
variable {t l:List ag} {S U:Sh} (hP:Part t l) (hS:bS t S) (hU:bS l U)
include hP hS hU
end
end
section
theorem xO {l:List ag}(hu:oF l){x:ag}(hx:x∈l):dY l x.dot=decide (kf l x=0):=by
 unfold dY;rw [hu.find hx]
theorem Ht {l:List ag}{st:aD}{d:Dt}:dm l st d=[]↔∀ e,e∈kR l->Reach (bX l) d e->st.aF e=true:=by
 rw [List.eq_nil_iff_forall_not_mem];constructor
 .intro h e he hr
  cases hc:st.aF e with
  | true=>rfl
  | false=>exact absurd (nq.2 ⟨he,hr,hc⟩) (h e)
 .intro h e he
  obtain ⟨h1,h2,h3⟩:=nq.1 he;rw [h e h1 h2] at h3;cases h3
section
variable {t l:List ag} (hP:Part t l)
include hP
theorem nv {x:ag}(hx:x∈t):dY t x.dot=dY l x.dot:=by
 rw [xO hP.AZ hx,xO hP.uniq (hP.sub x hx),A5 hP hx]
theorem Au {x:ag}(hx:x∈t)(hw:kf l x=0):jZ t x=jZ l x:=by
 unfold jZ
 by_cases hk:x.kind=0
 .rw [if_pos hk,if_pos hk]
 .rw [if_neg hk,if_neg hk]
  unfold kf yB at hw;obtain ⟨_,_,h3,_,_⟩:=vi.1 hw;rw [(hP.Nc.A4 hx (h3 hk).1).2]
theorem Av {st:aD}(r7:∀ o,o∈l->o∈t\/o.dep.above st=true){x:ag}(hx:x∈t)(hc:st.aF x.dot=true)(v:Dt):v∈bX t x.dot↔v∈bX l x.dot:=by
 rw [tf,tf];constructor
 .rintro ⟨h1,h2,h3⟩
  obtain ⟨o,hf,hw,e1,hd⟩:=kS h2;have ho:=(gP hf).1;have hgx:dY l x.dot=true:=by rw [<- nv hP hx];exact h1
  obtain ⟨x',hf',hw',_,_⟩:=kS hgx;rw [hP.uniq.find (hP.sub x hx)] at hf';injection hf' with hf';subst hf';refine ⟨hgx,by rw [<- hd,<- nv hP ho,hd];exact h2,?_⟩;unfold yK at h3 ⊢;rw [e1,bG (hP.AZ.find hx)] at h3;rw [bG (hP.find hf),bG (hP.uniq.find (hP.sub x hx))];unfold Bh at h3 ⊢;rw [<- Au hP hx hw'];exact h3
 .rintro ⟨h1,h2,h3⟩
  obtain ⟨o,hf,hw,e1,hd⟩:=kS h2;have hol:=(gP hf).1;obtain ⟨x',hf',hw',_,_⟩:=kS h1;rw [hP.uniq.find (hP.sub x hx)] at hf';injection hf' with hf';subst hf';unfold yK Bh at h3;rw [e1,bG (hP.uniq.find (hP.sub x hx))] at h3;simp only [Bool.and_eq_true,decide_eq_true_eq,Bool.not_eq_true'] at h3;obtain ⟨k1,k2,k3⟩:=h3;have ho:o∈t:=by
   rcases r7 o hol with h | h
   .exact h
   .have:=aD.yc h _ hc
    unfold ag.before at k3;rw [this] at k3;cases k3
  have hft:=hP.AZ.find ho;rw [hd] at hft;refine ⟨by rw [nv hP hx];exact h1,by rw [<- hd,nv hP ho,hd];exact h2,?_⟩;unfold yK Bh;rw [bG hft,bG (hP.AZ.find hx),Au hP hx hw'];simp only [Bool.and_eq_true,decide_eq_true_eq,Bool.not_eq_true'];exact ⟨k1,k2,k3⟩
theorem Aw {st:aD}(r7:∀ o,o∈l->o∈t\/o.dep.above st=true):∀ (n:Nat) (d:Dt),gU t d<n->d∈kR t->dm t st d=[]->HD t d=HD l d
 | 0,_,h,_,_=>absurd h (Nat.not_lt_zero _)
 | n +1,d,h,hd,hw=>by
  rw [Dt.mem_set,List.mem_map] at hd;obtain ⟨x,hx,rfl⟩:=hd;have hds:x.dot∈kR t:=Dt.mem_set.2 (List.mem_map.2 ⟨x,hx,rfl⟩);have hc:=Ht.1 hw _ hds (.refl _);rw [Bz,Bz,Bool.eq_iff_iff,List.all_eq_true,List.all_eq_true];have key:∀ v,v∈bX t x.dot->HD t v=HD l v:=λ v hv=>by
   have hlt:=qe hv;refine Aw r7 n v (by omega) (rU (nY hv)) (Ht.2 λ e he hr=>Ht.1 hw e he (.step hv hr))
  constructor
  .intro h2 v hv
   have hv':=(Av hP r7 hx hc v).2 hv;rw [<- key v hv'];exact h2 v hv'
  .intro h2 v hv
   rw [key v hv];exact h2 v ((Av hP r7 hx hc v).1 hv)
theorem DP {st:aD}(r7:∀ o,o∈l->o∈t\/o.dep.above st=true){d:Dt}(hd:d∈kR t)(hw:dm t st d=[]):Hj t d=Hj l d:=by
 have h1:=Aw hP r7 _ d (Nat.lt_succ_self _) hd hw;rw [Dt.mem_set,List.mem_map] at hd;obtain ⟨x,hx,rfl⟩:=hd;unfold Hj;rw [h1,nv hP hx]
end
end
section
attribute [local irreducible] SW RW aJ SC ai an iN yU
set_option maxHeartbeats 16000000 in
theorem Ax (l:List ag)(n:Int)(v w:aD)(hd:∀ o,o∈l->o.bp<256/\o.kind<256/\o.mW/\o.dot.wf/\o.cl.length<=140737488351232)(hlen:l.length<=9223372036854775807):
  SB Tryz.prog law20_FinalStays.f [ops l,.d (.int .i64 n),.agg (PV v w)] [] 0 0 (λ r F=>r=bl true):=by
 have p0:=PV.one v w;have p1:=PV.len v w;have p2:=PV.t0 v w;have p3:=PV.t8 v w;refine law20_FinalStays.enter (by first | rfl | simp [SV.ok,SV.ay]) (by first | rfl | simp [Hp.ok,Ob.ok,SV.ok,SV.ay,aD.aq]) (by simp) ?_;dsimp only [law20_FinalStays.s,Co.M,Co.G,Co.J,Co.H,Co.F,Co.C,Co.Z,Co.B,Co.b8,Co.z8,Co.K,Co.L,Co.P,Co.Q,Co.x,Co.W,Co.Y,Co.V,Co.U,Co.O,Co.D,Co.I,Co.S];have hG':=EO l (λ o ho=>⟨_,_,(hd o ho).2.2.1.eq,(hd o ho).2.2.1.le⟩) hlen;refine SW.seq (SW.g0 [0,1,2,5,6,7,8,9,10,11,12,13,14,31,39,44,64,76,91] Zm p0 ?_);refine SW.seq (SW.g0 [0,1,2,5,6,7,8,9,10,11,12,13,14,31,39,44,64,76,91] Zm (Zq p0 (Zq p1 (Zq p2 p3))) ?_);refine SW.weak id (st1:=⟨[(8,.ptr 2 0),(7,.ptr 1 0),(1,.d (.int .i64 n)),(0,ops l)],[(2,.box 39 w.cells),(1,.box 39 v.cells)],3⟩) (aI.same (Nat.zero_le _) (by simp [aL,List.lookup,SV.aA,SV.ok,SV.ay]) (by simp [Hp.ok,Ob.ok,aD.aq]) (λ y hy=> ?_)) ?_
 .simp only [List.mem_cons,List.not_mem_nil,or_false] at hy
  rcases hy with rfl | rfl <;> rfl
 refine SW.seq (SW.seq ?_);rcases hG:jH l with _ | _
 rotate_left
 .rw [hG] at hG'
  refine SW.g2 [0,1,2,5,6,7,8,9,10,11,12,13,14,31,39,44,64,76,91] Zm af hG' fL ?_;refine SW.aj rfl (SW.seq (SW.g2 [0,1,2,5,6,7,8,9,10,11,12,13,14,31,39,44,64,76,91] Zm af hG' fL ?_));refine SW.ret ?_;exact End.mk [] (h4:=rfl)
 rw [hG] at hG';have hl80:=xq hG;have hd':=zZ hG (λ o ho=>⟨(hd o ho).2.2.1,(hd o ho).2.2.2.2⟩);have hrow:l_ l:=λ o ho=>⟨(hd o ho).2.1,(hd o ho).2.2.1,hd' o ho⟩
 have cH:=vL l hlen n (λ o ho=>⟨(hd o ho).2.2.2.1,(hd o ho).2.1,(hd o ho).2.2.1⟩);rcases h60:decide ((l.length:Int)>60) with _ | _
 rotate_left
 .skip
  refine SW.g2 [0,1,2,5,6,7,8,9,10,11,12,13,14,31,39,44,64,76,91] Zm h60 hG' fL ?_;refine SW.aj rfl (SW.seq (SW.g2 [0,1,2,5,6,7,8,9,10,11,12,13,14,31,39,44,64,76,91] Zm af hG' fL ?_));refine SW.ret ?_;exact End.mk [] (h4:=rfl)
 obtain ⟨z,hz⟩:∃ z,mX n l=z:=⟨_,rfl⟩;rw [hz] at cH;rcases hz0:(z != 0) with _ | _
 rotate_left
 .skip
  refine SW.g4 [0,1,2,5,6,7,8,9,10,11,12,13,14,31,39,44,64,76,91] Zm (Zq h60 hz0) hG' cH fL trivial ?_;refine SW.aj rfl (SW.seq (SW.g4 [0,1,2,5,6,7,8,9,10,11,12,13,14,31,39,44,64,76,91] Zm af hG' cH fL trivial ?_));refine SW.ret ?_;exact End.mk [] (h4:=rfl)
 refine SW.g2 [0,1,2,5,6,7,8,9,10,11,12,13,14,31,39,44,64,76,91] Zm (Zq h60 hz0) hG' cH ?_;refine SW.au rfl (SW.skip ?_);have hHl:yh n l:=qE.1 (by rw [hz];simpa using hz0);have cC:=Jt l (by omega) v;refine SW.seq (SW.g1 [0,1,2,5,6,7,8,9,10,11,12,13,14,31,39,44,64,76,91] Zm af cC ?_);obtain ⟨T,hT⟩:∃ T,oT l v=T:=⟨_,rfl⟩;have hTs:∀ o,o∈T->o∈l:=λ o ho=>by rw [<- hT] at ho;exact (List.mem_filter.1 ho).1
 have hTl:T.length<=80:=by rw [<- hT];exact Nat.le_trans (As l v) hl80
 have hTm:∀ o,o∈l->v.aF o.dot=true->o∈T:=λ o ho hc=>by rw [<- hT];exact List.mem_filter.2 ⟨ho,hc⟩
 have hPt:yh n T->Part T l:=λ h=>by rw [<- hT] at h ⊢;exact Ju hHl h
 rw [hT];clear hT cC;have hrowT:l_ T:=λ o ho=>hrow o (hTs o ho)
 have cH2:=vL T (by omega) n (λ o ho=>⟨(hd o (hTs o ho)).2.2.2.1,(hd o (hTs o ho)).2.1,(hd o (hTs o ho)).2.2.1⟩);obtain ⟨y,hy⟩:∃ y,mX n T=y:=⟨_,rfl⟩;rw [hy] at cH2;refine SW.seq (SW.seq ?_);rcases hy0:(y != 0) with _ | _
 rotate_left
 .skip
  refine SW.g2 [0,1,2,5,6,7,8,9,10,11,12,13,14,31,39,44,64,76,91] Zm hy0 cH2 fL ?_;refine SW.aj rfl (SW.seq (SW.g2 [0,1,2,5,6,7,8,9,10,11,12,13,14,31,39,44,64,76,91] Zm af cH2 fL ?_));refine SW.ret ?_;exact End.mk [] (h4:=rfl)
 refine SW.g1 [0,1,2,5,6,7,8,9,10,11,12,13,14,31,39,44,64,76,91] Zm hy0 cH2 ?_;refine SW.au rfl (SW.skip ?_);have hPart:Part T l:=hPt (qE.1 (by rw [hy];simpa using hy0));refine SW.seq (SW.seq ?_);refine SW.g0 [0,1,2,5,6,7,8,9,10,11,12,13,14,31,39,44,64,76,91] Zm af ?_;refine SW.block ?_;refine SW.loop (α:={i:Nat // i<=l.length/\∀ x,x∈l.take i->v.aF x.dot=true\/x.dep.above w=true}) (λ i=>⟨[(10,i64 i.1),(9,ops T),(8,.ptr 2 0),(7,.ptr 1 0),(0,ops l)],[(2,.box 39 w.cells),(1,.box 39 v.cells)],3⟩) (λ i=>l.length - i.1) ⟨0,by simp⟩ id (aI.same (Nat.zero_le _) (by simp [aL,List.lookup,SV.aA,SV.ok,SV.ay]) (by simp [Hp.ok,Ob.ok,aD.aq]) (λ y hy=>by
  simp only [List.mem_cons,List.not_mem_nil,or_false] at hy;rcases hy with rfl | rfl <;> rfl)) ?_
 rintro ⟨i,hi,hmi⟩;dsimp only
 by_cases h:i<l.length
 .obtain ⟨x,hx⟩:=aZ h
  have h1:decide ((i:Int)<l.length)=true:=by simp only [decide_eq_true_eq];omega
  have e2:IntKind.i64.wrap ((i:Int)+1)=((i+1:Nat):Int):=wrap_i64 _ (by omega);have cV:=nS v x.dot;have cA:=qK x.dep w;have next:(v.aF x.dot=true\/x.dep.above w=true)->∀ y,y∈l.take (i+1)->v.aF y.dot=true\/y.dep.above w=true:=λ hc y hy=>by
   rw [dB hx,List.mem_append] at hy;rcases hy with hy | hy
   .exact hmi y hy
   .rw [List.mem_singleton.1 hy];exact hc
  refine SW.seq (SW.seq (SW.g0 [0,1,2,5,6,7,8,9,10,11,12,13,14,31,39,44,64,76,91] Zm h1 ?_));refine SW.aj rfl (SW.skip (SW.seq (SW.block (SW.seq ?_))));cases hc:v.aF x.dot with
  | true=>
   rw [hc] at cV;refine SW.g1 [0,1,2,5,6,7,8,9,10,11,12,13,14,31,39,44,64,76,91] Zm (Zq (lW hx) (jW hx)) cV ?_;refine SW.au rfl (SW.skip ?_);refine SW.g0 [0,1,2,5,6,7,8,9,10,11,12,13,14,31,39,44,64,76,91] Zm e2 ?_;exact ⟨⟨i+1,by omega,next (.inl hc)⟩,id,by show l.length - (i+1)<_;omega,aI.same (Nat.zero_le _) (by simp [aL,List.lookup,SV.aA,SV.ok,SV.ay]) (by simp [Hp.ok,Ob.ok,aD.aq]) (λ y hy=>by
    simp only [List.mem_cons,List.not_mem_nil,or_false] at hy;rcases hy with rfl | rfl <;> rfl)⟩
  | false=>
   rw [hc] at cV;cases ha:x.dep.above w with
   | true=>
    rw [ha] at cA;refine SW.g2 [0,1,2,5,6,7,8,9,10,11,12,13,14,31,39,44,64,76,91] Zm (Zq (lW hx) (Zq (jW hx) (Zq (oQ hx) (j4 hx)))) cV cA ?_;refine SW.au rfl (SW.skip ?_);refine SW.g0 [0,1,2,5,6,7,8,9,10,11,12,13,14,31,39,44,64,76,91] Zm e2 ?_;exact ⟨⟨i+1,by omega,next (.inr ha)⟩,id,by show l.length - (i+1)<_;omega,aI.same (Nat.zero_le _) (by simp [aL,List.lookup,SV.aA,SV.ok,SV.ay]) (by simp [Hp.ok,Ob.ok,aD.aq]) (λ y hy=>by
     simp only [List.mem_cons,List.not_mem_nil,or_false] at hy;rcases hy with rfl | rfl <;> rfl)⟩
   | false=>
    rw [ha] at cA;refine SW.g4 [0,1,2,5,6,7,8,9,10,11,12,13,14,31,39,44,64,76,91] Zm (Zq (lW hx) (Zq (jW hx) (Zq (oQ hx) (j4 hx)))) cV cA fL trivial ?_;refine SW.aj rfl (SW.seq (SW.g4 [0,1,2,5,6,7,8,9,10,11,12,13,14,31,39,44,64,76,91] Zm af cV cA fL trivial ?_));refine SW.ret ?_;exact End.mk [] (h4:=rfl)
 have h1:decide ((i:Int)<l.length)=false:=by simp only [decide_eq_false_iff_not];omega
 have r7:∀ o,o∈l->o∈T\/o.dep.above w=true:=λ o ho=>by
  rcases hmi o (by rw [List.take_of_length_le (by omega)];exact ho) with hc | hc
  .exact .inl (hTm o ho hc)
  .exact .inr hc
 refine SW.seq (SW.seq (SW.g0 [0,1,2,5,6,7,8,9,10,11,12,13,14,31,39,44,64,76,91] Zm h1 ?_));refine SW.au rfl (SW.exit ?_);refine (?_:Sl.SW _ _ _ _ _ _);have cO1:=Kf T hTl hrowT;have cO2:=Kf l hl80 hrow;have cF:=rW T hTl hrowT w;have hA:∀ d,d∈(kR T).filter (λ d=>decide (dm T w d=[]))->(rZ T).get d=(rZ l).get d:=λ d hm=>by
  obtain ⟨h1,h2⟩:=List.mem_filter.1 hm;rw [Ar,Ar];exact DP hPart r7 h1 (of_decide_eq_true h2)
 have hAl:((kR T).filter (λ d=>decide (dm T w d=[]))).length<=80:=by
  have h1:=List.length_filter_le (λ d=>decide (dm T w d=[])) (kR T);have h2:(kR T).length<=(T.map (·.dot)).length:=Dt.yJ _;rw [List.length_map] at h2;omega
 generalize (kR T).filter (λ d=>decide (dm T w d=[]))=A at cF hA hAl;generalize rZ T=K1 at cO1 hA;generalize rZ l=K2 at cO2 hA;refine SW.seq ?_;refine SW.g4 [0,1,2,5,6,7,8,9,10,11,12,13,14,31,39,44,64,76,91] Zm af cO1 cO2 cF trivial ?_;refine SW.weak id (st1:=⟨[(13,bq A),(12,.mp 4),(11,.mp 3)],[(4,yS K2),(3,yS K1)],5⟩) (aI.same (Nat.zero_le _) (by simp [aL,List.lookup,SV.aA,SV.ok,SV.ay]) (by simp [Hp.ok,Ob.ok,fC]) (λ y hy=>by
  simp only [List.mem_cons,List.not_mem_nil,or_false] at hy;rcases hy with rfl | rfl <;> rfl)) ?_
 refine SW.seq (SW.seq ?_);refine SW.g0 [0,1,2,5,6,7,8,9,10,11,12,13,14,31,39,44,64,76,91] Zm af ?_;refine SW.block ?_;refine SW.loop (α:={i:Nat // i<=A.length}) (λ i=>⟨[(14,i64 i.1),(13,bq A),(12,.mp 4),(11,.mp 3)],[(4,yS K2),(3,yS K1)],5⟩) (λ i=>A.length - i.1) ⟨0,Nat.zero_le _⟩ id (aI.same (Nat.zero_le _) (by simp [aL,List.lookup,SV.aA,SV.ok,SV.ay]) (by simp [Hp.ok,Ob.ok,fC]) (λ y hy=>by
  simp only [List.mem_cons,List.not_mem_nil,or_false] at hy;rcases hy with rfl | rfl <;> rfl)) ?_
 rintro ⟨i,hi⟩;dsimp only
 by_cases hik:i<A.length
 .obtain ⟨d,hx⟩:=aZ hik
  have h1:decide ((i:Int)<A.length)=true:=by simp only [decide_eq_true_eq];omega
  have e2:IntKind.i64.wrap ((i:Int)+1)=((i+1:Nat):Int):=wrap_i64 _ (by omega);have hE:=hA d (List.mem_of_getElem? hx);have k1:=uu K1.m d;change _=SV.d (.int .u8 ((K1.get d:Nat):Int)) at k1;have k2:=uu K2.m d;change _=SV.d (.int .u8 ((K2.get d:Nat):Int)) at k2;rw [hE] at k1;have hne:(((K2.get d:Nat):Int) != ((K2.get d:Nat):Int))=false:=by simp
  generalize ((K2.get d:Nat):Int)=g at k1 k2 hne;dsimp only [yS];refine SW.seq (SW.seq ?_);refine SW.g0 [0,1,2,5,6,7,8,9,10,11,12,13,14,31,39,44,64,76,91] Zm h1 ?_;refine SW.aj rfl (SW.skip ?_);refine SW.seq (SW.block (SW.seq ?_));refine SW.g0 [0,1,2,5,6,7,8,9,10,11,12,13,14,31,39,44,64,76,91] Zm (Zq (iq hx) (Zq (kQ hx) (Zq k1 (Zq k2 hne)))) ?_;refine SW.au rfl (SW.skip ?_);refine SW.g0 [0,1,2,5,6,7,8,9,10,11,12,13,14,31,39,44,64,76,91] Zm e2 ?_;exact ⟨⟨i+1,by omega⟩,id,by show A.length - (i+1)<_;omega,aI.same (Nat.zero_le _) (by simp [aL,List.lookup,SV.aA,SV.ok,SV.ay]) (by simp [Hp.ok,Ob.ok,fC]) (λ y hy=>by
   simp only [List.mem_cons,List.not_mem_nil,or_false] at hy;rcases hy with rfl | rfl <;> rfl)⟩
 have h1:decide ((i:Int)<A.length)=false:=by simp only [decide_eq_false_iff_not];omega
 refine SW.seq (SW.seq (SW.g0 [0,1,2,5,6,7,8,9,10,11,12,13,14,31,39,44,64,76,91] Zm h1 ?_));refine SW.au rfl (SW.exit ?_);refine (?_:Sl.SW _ _ _ _ _ _);refine SW.seq (SW.g1 [0,1,2,5,6,7,8,9,10,11,12,13,14,31,39,44,64,76,91] Zm af fL ?_);refine SW.ret ?_;exact End.mk [] (h4:=rfl)
end
end Go.Proofs.YtaelhkkjgfobhaaGreat
namespace Go.Proofs.YtaelhkkjgfobhaaGreat
open Go.Sl Go.Proofs
theorem DQ {P:Program}{t:TypeId}{n:Nat}{ds:List DV}(h:dM P t=some (some n)):lT P t ds= .agg (ds.map .d):=by simp [lT,h]
theorem xP {P:Program}{t:TypeId}{ds:List DV}(h:dM P t=some none):lT P t ds= .d (ds.headD .kA):=by simp [lT,h]
set_option maxRecDepth 100000 in
theorem yT {d:Nat}{ds:List DV}(h:Fit Tryz.prog (d+2) kF ds):∃ v:aD,v.wf/\ds=v.ds:=
 Ia (P:= Tryz.prog) (t:=kF) (e:=EL) Tryz.underlying39 Tryz.underlying35 (by kernel_rfl) (by kernel_rfl) h
set_option maxRecDepth 100000 in
theorem n_ {d:Nat}{ds:List DV}(h:Fit Tryz.prog (d+2) xo ds):∃ x:Dt,x.wf/\ds=x.ds:=
 Ib (P:= Tryz.prog) (t:=xo) Tryz.underlying37 rfl rfl rfl rfl Tryz.underlying5 Tryz.underlying35 (by kernel_rfl) (by kernel_rfl) (by kernel_rfl) h
set_option maxRecDepth 100000 in
theorem DR {d:Nat}{ds:List DV}(h:Fit Tryz.prog (d+3) iU ds):∃ x:Cm,x.wf/\ds=x.ds:=by
 have f0:=bV (P:= Tryz.prog) (t:=iU) Tryz.underlying148 h 0 _ rfl;have f1:=bV (P:= Tryz.prog) (t:=iU) Tryz.underlying148 h 1 _ rfl;have hl:=ye (P:= Tryz.prog) (t:=iU) Tryz.underlying148 h;rw [show Tryz.prog.cellsOf iU=4 from by kernel_rfl] at hl;obtain ⟨x0,w0,e0⟩:=n_ (d:=d) f0;obtain ⟨x1,w1,e1⟩:=n_ (d:=d) f1;refine ⟨⟨x0,x1⟩,⟨w0,w1⟩,?_⟩;have g0:ds.drop 0=x0.ds++ds.drop 2:=nR (n:=2) e0 rfl;have g1:ds.drop 2=x1.ds++ds.drop 4:=nR (n:=2) e1 rfl;have g:ds.drop 4=[]:=List.drop_of_length_le (by omega);have g':ds=ds.drop 0:=rfl;rw [g',g0,g1,g];rfl
set_option maxRecDepth 100000 in
theorem DS {d:Nat}{ds:List DV}(h:Fit Tryz.prog (d+4) qn ds):ds=[.aN]\/∃ l:List Cm,(∀ x∈l,x.wf)/\l.length<=9223372036854775807/\ds=[.sl l.length (l.flatMap Cm.ds)]:=
 xk Cm.ds Cm.wf (P:= Tryz.prog) (t:=qn) (e:=iU) Tryz.underlying41 (λ _ h=>DR h) h
structure Md (o:ag):Prop where
 dot:o.dot.wf
 dep:o.dep.wf
 time:o.time<18446744073709551616
 who:o.who<4294967296
 aK:o.aK.wf
 kind:o.kind<256
 aM:o.aM.wf
 to:o.to<4294967296
 bp:o.bp<256
 depth:o.depth<256
 cap:o.cap<18446744073709551616
 at_:o.at_.wf
 jD:o.jD.wf
 item:o.item<4294967296
 ua:o.ua<4294967296
 fz:o.fz<4294967296
 lines:o.lines= .aN\/∃ cl:List Cm,o.lines= .sl cl.length (cl.flatMap Cm.ds)/\cl.length<=9223372036854775807
set_option maxRecDepth 100000 in
set_option maxHeartbeats 2000000 in
theorem LV {d:Nat}{ds:List DV}(h:Fit Tryz.prog (d+5) c_ ds):∃ o:ag,Md o/\ds=o.ds:=by
 have f0:=bV (P:= Tryz.prog) (t:=c_) Tryz.underlying43 h 0 _ rfl;have f1:=bV (P:= Tryz.prog) (t:=c_) Tryz.underlying43 h 1 _ rfl;have f2:=bV (P:= Tryz.prog) (t:=c_) Tryz.underlying43 h 2 _ rfl;have f3:=bV (P:= Tryz.prog) (t:=c_) Tryz.underlying43 h 3 _ rfl;have f4:=bV (P:= Tryz.prog) (t:=c_) Tryz.underlying43 h 4 _ rfl;have f5:=bV (P:= Tryz.prog) (t:=c_) Tryz.underlying43 h 5 _ rfl;have f6:=bV (P:= Tryz.prog) (t:=c_) Tryz.underlying43 h 6 _ rfl;have f7:=bV (P:= Tryz.prog) (t:=c_) Tryz.underlying43 h 7 _ rfl;have f8:=bV (P:= Tryz.prog) (t:=c_) Tryz.underlying43 h 8 _ rfl;have f9:=bV (P:= Tryz.prog) (t:=c_) Tryz.underlying43 h 9 _ rfl;have f10:=bV (P:= Tryz.prog) (t:=c_) Tryz.underlying43 h 10 _ rfl;have f11:=bV (P:= Tryz.prog) (t:=c_) Tryz.underlying43 h 11 _ rfl;have f12:=bV (P:= Tryz.prog) (t:=c_) Tryz.underlying43 h 12 _ rfl;have f13:=bV (P:= Tryz.prog) (t:=c_) Tryz.underlying43 h 13 _ rfl;have f14:=bV (P:= Tryz.prog) (t:=c_) Tryz.underlying43 h 14 _ rfl;have f15:=bV (P:= Tryz.prog) (t:=c_) Tryz.underlying43 h 15 _ rfl;have f16:=bV (P:= Tryz.prog) (t:=c_) Tryz.underlying43 h 16 _ rfl;have hl:=ye (P:= Tryz.prog) (t:=c_) Tryz.underlying43 h;rw [show Tryz.prog.cellsOf c_=29 from by kernel_rfl] at hl;obtain ⟨x0,w0,e0⟩:=n_ (d:=d+2) f0;obtain ⟨x1,w1,e1⟩:=yT (d:=d+2) f1;obtain ⟨x2,w2,e2⟩:=BT (P:= Tryz.prog) Tryz.underlying40 f2;obtain ⟨x3,w3,e3⟩:=nP (P:= Tryz.prog) Tryz.underlying35 f3;obtain ⟨x4,w4,e4⟩:=n_ (d:=d+2) f4;obtain ⟨x5,w5,e5⟩:=yd (P:= Tryz.prog) Tryz.underlying5 f5;obtain ⟨x6,w6,e6⟩:=n_ (d:=d+2) f6;obtain ⟨x7,w7,e7⟩:=nP (P:= Tryz.prog) Tryz.underlying35 f7;obtain ⟨x8,w8,e8⟩:=yd (P:= Tryz.prog) Tryz.underlying5 f8;obtain ⟨x9,w9,e9⟩:=yd (P:= Tryz.prog) Tryz.underlying5 f9;obtain ⟨NS,w10,e10⟩:=BT (P:= Tryz.prog) Tryz.underlying40 f10;obtain ⟨NT,w11,O3⟩:=n_ (d:=d+2) f11;obtain ⟨NU,w12,e12⟩:=n_ (d:=d+2) f12;obtain ⟨NV,w13,e13⟩:=nP (P:= Tryz.prog) Tryz.underlying35 f13;obtain ⟨x14,w14,e14⟩:=nP (P:= Tryz.prog) Tryz.underlying35 f14;obtain ⟨x15,w15,e15⟩:=nP (P:= Tryz.prog) Tryz.underlying35 f15;have e16:∃ y,(ds.drop 28).take 1=[y]/\(y= .aN\/∃ cl:List Cm,y= .sl cl.length (cl.flatMap Cm.ds)/\cl.length<=9223372036854775807):=by
  rcases DS (d:=d) f16 with e | ⟨cl,_,hn,e⟩
  .exact ⟨.aN,e,.inl rfl⟩
  .exact ⟨_,e,.inr ⟨cl,rfl,hn⟩⟩
 obtain ⟨x16,e16,w16⟩:=e16;refine ⟨⟨x0,x1,x2,x3,x4,x5,x6,x7,x8,x9,NS,NT,NU,NV,x14,x15,x16⟩,⟨w0,w1,w2,w3,w4,w5,w6,w7,w8,w9,w10,w11,w12,w13,w14,w15,w16⟩,?_⟩;have g0:ds.drop 0=x0.ds++ds.drop 2:=nR (n:=2) e0 rfl;have g1:ds.drop 2=x1.ds++ds.drop 10:=nR (n:=8) e1 rfl;have g2:ds.drop 10=[.int .u64 x2]++ds.drop 11:=nR (n:=1) e2 rfl;have g3:ds.drop 11=[.int .u32 x3]++ds.drop 12:=nR (n:=1) e3 rfl;have g4:ds.drop 12=x4.ds++ds.drop 14:=nR (n:=2) e4 rfl;have g5:ds.drop 14=[.int .u8 x5]++ds.drop 15:=nR (n:=1) e5 rfl;have g6:ds.drop 15=x6.ds++ds.drop 17:=nR (n:=2) e6 rfl;have g7:ds.drop 17=[.int .u32 x7]++ds.drop 18:=nR (n:=1) e7 rfl;have g8:ds.drop 18=[.int .u8 x8]++ds.drop 19:=nR (n:=1) e8 rfl;have g9:ds.drop 19=[.int .u8 x9]++ds.drop 20:=nR (n:=1) e9 rfl;have g10:ds.drop 20=[.int .u64 NS]++ds.drop 21:=nR (n:=1) e10 rfl;have g11:ds.drop 21=NT.ds++ds.drop 23:=nR (n:=2) O3 rfl;have g12:ds.drop 23=NU.ds++ds.drop 25:=nR (n:=2) e12 rfl;have g13:ds.drop 25=[.int .u32 NV]++ds.drop 26:=nR (n:=1) e13 rfl;have g14:ds.drop 26=[.int .u32 x14]++ds.drop 27:=nR (n:=1) e14 rfl;have g15:ds.drop 27=[.int .u32 x15]++ds.drop 28:=nR (n:=1) e15 rfl;have g16:ds.drop 28=[x16]++ds.drop 29:=nR (n:=1) e16 rfl;have g:ds.drop 29=[]:=List.drop_of_length_le (by omega);have g':ds=ds.drop 0:=rfl;rw [g',g0,g1,g2,g3,g4,g5,g6,g7,g8,g9,g10,g11,g12,g13,g14,g15,g16,g];rfl
set_option maxRecDepth 100000 in
theorem Jv {d:Nat}{ds:List DV}(h:Fit Tryz.prog (d+6) lD ds):ds=[.aN]\/∃ l:List ag,(∀ x∈l,Md x)/\l.length<=9223372036854775807/\ds=[.sl l.length (l.flatMap ag.ds)]:=
 xk ag.ds Md (P:= Tryz.prog) (t:=lD) (e:=c_) Tryz.underlying22 (λ _ h=>LV h) h
theorem Jw (x:DV):lT Tryz.prog lD [x]= .d x:=by rw [xP (by kernel_rfl)];rfl
theorem Md.nz {q:ag}(h:Md q):Md q.nz/\q.nz.mW:=by
 have hl:q.nz.mW/\(q.nz.lines= .aN\/∃ cl:List Cm,q.nz.lines= .sl cl.length (cl.flatMap Cm.ds)/\cl.length<=9223372036854775807):=by
  rcases h.lines with e | ⟨cl,e,mO⟩
  .have e':q.nz.lines= .sl ([]:List Cm).length (([]:List Cm).flatMap Cm.ds):=by show Go.Sl.nz q.lines=_;rw [e];rfl
   exact ⟨(ag.mW.of e' (by simp)).1,.inr ⟨[],e',by simp⟩⟩
  .have e':q.nz.lines= .sl cl.length (cl.flatMap Cm.ds):=by show Go.Sl.nz q.lines=_;rw [e];rfl
   exact ⟨(ag.mW.of e' mO).1,.inr ⟨cl,e',mO⟩⟩
 exact ⟨⟨h.dot,h.dep,h.time,h.who,h.aK,h.kind,h.aM,h.to,h.bp,h.depth,h.cap,h.at_,h.jD,h.item,h.ua,h.fz,hl.2⟩,hl.1⟩
theorem own:ownKnob Tryz.prog.godebug=none:=by kernel_rfl
theorem Jx {t:TypeId}(x:DV)(h:dM Tryz.prog t=some none):lT Tryz.prog t [x]= .d x:=by rw [xP h];rfl
def Kg (n:Int):Prop:= -9223372036854775808<=n/\n<=9223372036854775807
theorem BU {P:Program}{d:Nat}{t:TypeId}{ds:List DV}(hu:P.underlying t=some (.int .i64))(h:Fit P (d+1) t ds):∃ n:Int,Kg n/\ds=[.int .i64 n]:=by
 simp only [Fit] at h;rw [hu] at h;obtain ⟨n,rfl,hw⟩:=h;refine ⟨n,?_,rfl⟩;simp only [Lit.wf,IntKind.min,IntKind.max,Bool.and_eq_true,decide_eq_true_eq] at hw;unfold Kg
 revert hw
 simp [IntKind.bits,IntKind.signed]
theorem BB (M:Mem):qq M:=λ g cs hg=>by simp [D5,yV] at hg
theorem Jy {P:Program}{d:Nat}{t1 t2 t3:TypeId}{vQ:List (List DV)}(h:sF P d [t1,t2,t3] vQ):∃ x0 x1 x2,vQ=[x0,x1,x2]/\Fit P d t1 x0/\Fit P d t2 x1/\Fit P d t3 x2:=by
 match vQ,h with
 | [x0,x1,x2],h=>
  simp only [sF] at h;exact ⟨x0,x1,x2,rfl,h.1,h.2.1,h.2.2.1⟩
end Go.Proofs.YtaelhkkjgfobhaaGreat
