/-
 Who threatens, as a row of one's own.
-/
import Derived.Test.YtaelhkkjgfobhaaGreatR7
set_option linter.unusedSectionVars false
set_option linter.unusedVariables false
set_option linter.unusedSimpArgs false
namespace Go.Proofs.YtaelhkkjgfobhaaGreat
open Go.Sl Go.Proofs Go.Sort
attribute [local irreducible] SW RW aH SC aj ak js
theorem Cp {L:ji}{c:Nat}(hwf:MM.wf L c)(hL:L.length<1000000000):
  SB Tryz.prog slices_SortedFunc_api_Dot.f [.fn (.func maps_Keys_dot_set_api_Dot_int_1.f) [] [.ptr 0 0],.fn (.func dot_Compare.f) [] []] (g_ 0 1 L c) 2 1
   λ r F=>r= .gs 2 (Dt.sorted (MM.keys L)).length/\F=(2,uz (Dt.sorted (MM.keys L)) 2)::g_ 0 1 L c:=by
 refine slices_SortedFunc_api_Dot.enter (by simp[SV.ok,SV.ax]) (qf _ _ _ _ _ rfl rfl) (by simp) ?_;dsimp only[slices_SortedFunc_api_Dot.s,Co.M,Co.J,Co.F,Co.P,Co.Q,Co.S];refine SW.seq (SW.g0 jn Zm aa ?_);refine SW.seq (SW.xU ?_);(repeat (first|refine bq.op aa (h:=?_)|refine bq.dV aa (h:=?_)|refine bq.skip (h:=?_)));refine bq.bC (wq hwf hL) (λ _ _ h=>h) (h:=?_);rintro v F' ⟨rfl,l,hl,rfl⟩;simp only[bU,de,dg,gf,gJ,c_,lk,List.lookup,Nat.reduceBEq,BEq.rfl,beq_self_eq_true,if_true,if_false,reduceIte,Nat.reduceEqDiff,Bool.false_eq_true,Option.isSome_some,Option.isSome_none,Nat.reduceAdd,g_];(repeat (first|refine bq.op aa (h:=?_)|refine bq.dV aa (h:=?_)|refine bq.skip (h:=?_)));refine bq.nil ?_;have hlen:l.length=L.length:=by rw[hl.length_eq];simp[MM.keys]
 refine SW.seq (SW.xU ?_);(repeat (first|refine bq.op aa (h:=?_)|refine bq.dV aa (h:=?_)|refine bq.skip (h:=?_)));rw[<- hlen];refine bq.o7 aa (pG 2 l (by omega) 3) (h:=?_);refine bq.nil ?_;refine SW.seq (SW.g0 jn Zm aa ?_);have gL:(Dt.sorted l).length=l.length:=(Dt.sorted_perm l).length_eq;have hse:Dt.sorted l=Dt.sorted (MM.keys L):=Dt.jV ((Dt.sorted_perm l).trans hl) (Dt.gp l);rw[<- hse,<- gL];refine SW.ret ?_;exact End.mk ((2,uz (Dt.sorted l) 2)::g_ 0 1 L c) (h4:=⟨rfl,rfl⟩) (h6:=by simp[g_,Hp.ok,Ob.ok,SV.ax,SV.ok,SV.aW,bL])
theorem Cq {L:ji}{c:Nat}(hwf:MM.wf L c)(hL:L.length<1000000000)(k:Nat)(b m:Nat)(MB:b≠m):
  aH Tryz.prog slices_SortedFunc_api_Dot.f [.fn (.func maps_Keys_dot_set_api_Dot_int_1.f) [] [.ptr b 0],.fn (.func dot_Compare.f) [] []] (g_ b m L c) k 1 (.gs k (Dt.sorted (MM.keys L)).length) ((k,uz (Dt.sorted (MM.keys L)) k)::g_ b m L c):=by
 have h:=SB.lR [b,m] (Cp hwf hL) (by simp[MB]) (λ i hi=>r_ L c i (by simpa using hi)) k
 simpa[SV.aN,SV.aC,eu,g_,Hp.aC,Ob.aC,fc,SV.dy] using h
theorem Ib {L:ji}{c:Nat}(hwf:MM.wf L c)(hL:L.length<1000000000):SB Tryz.prog dot_set_list.f [.mp 0] [(0,.map (au Dt.cells iv L) c)] 1 2 λ r F=>r= .gs 2 (Dt.sorted (MM.keys L)).length/\F=[(2,uz (Dt.sorted (MM.keys L)) 2),(0,.map (au Dt.cells iv L) c)]:=by
 refine dot_set_list.enter rfl (by simp[Hp.ok,Ob.ok,bL]) (by simp) ?_;dsimp only[dot_set_list.s,Co.M,Co.J,Co.F,Co.C,Co.P,Co.S];refine SW.seq (SW.g0 fv Zm aa ?_);refine SW.seq (SW.xU ?_);(repeat (first|refine bq.op aa (h:=?_)|refine bq.dV aa (h:=?_)|refine bq.skip (h:=?_)));refine bq.o7 aa (Dn L c 0 1) (h:=?_);refine bq.o7 aa (Cq hwf hL 2 1 0 (by decide)) (h:=?_);(repeat (first|refine bq.op aa (h:=?_)|refine bq.dV aa (h:=?_)|refine bq.skip (h:=?_)));refine bq.nil (SW.ret ?_);exact End.mk [(2,uz (Dt.sorted (MM.keys L)) 2),(0,.map (au Dt.cells iv L) c)] (h4:=⟨rfl,rfl⟩) (h6:=by simp[Hp.ok,Ob.ok,SV.ax,SV.ok,bL,SV.aW])
theorem Ic {L:ji}{c:Nat}(hwf:MM.wf L c)(hL:L.length<1000000000)(n k:Nat):aH Tryz.prog dot_set_list.f [.mp n] [(n,.map (au Dt.cells iv L) c)] k 2 (.gs (k+1) (Dt.sorted (MM.keys L)).length) [(k+1,uz (Dt.sorted (MM.keys L)) 2),(n,.map (au Dt.cells iv L) c)]:=by
 have h:=SB.lR [n] (Ib hwf hL) (by simp) (λ i hi=>by cases i with|zero=>simp[af]|succ i=>simp at hi) k;simp[SV.aN,SV.aC,eu,Hp.aC,Ob.aC,fc,SV.dy] at h;rw[Nat.add_comm 1 k] at h;exact h
theorem Ie (l:List Dt)(hl:l.length<1000000000):SB Tryz.prog dot_Sort.f [bN l] [] 0 3 λ r F=>r= .gs 2 (Dt.set l).length/\F=[(2,uz (Dt.set l) 2)]:=by
 refine dot_Sort.enter (by simp[SV.ok,SV.ax]) rfl (by simp) ?_;dsimp only[dot_Sort.s,Co.M,Co.J,Co.F,Co.P,Co.S];refine SW.seq (SW.g0 fv Zm aa ?_);refine SW.seq (SW.xU ?_);(repeat (first|refine bq.op aa (h:=?_)|refine bq.dV aa (h:=?_)|refine bq.skip (h:=?_)));refine bq.o7 aa (AT l (by omega) 0) (h:=?_);refine bq.o7 aa (Ic (uS l) (Nat.lt_of_le_of_lt (AS l) hl) 0 1) (h:=?_);(repeat (first|refine bq.op aa (h:=?_)|refine bq.dV aa (h:=?_)|refine bq.skip (h:=?_)));refine bq.nil (SW.ret ?_);exact End.mk [(2,uz (Dt.set l) 2)] (h4:=⟨rfl,rfl⟩) (h6:=by simp[Hp.ok,Ob.ok,SV.aW])
theorem Ig (l:List Dt)(hl:l.length<1000000000)(k:Nat):aH Tryz.prog dot_Sort.f [bN l] [] k 3 (.gs (k+2) (Dt.set l).length) [(k+2,uz (Dt.set l) 2)]:=by
 have h:=SB.lR [] (Ie l hl) (by simp) (λ i hi=>by simp at hi) k;have e:eu [] k 2=k+2:=by simp[eu];omega
 simp only[SV.aN,SV.aC,e,Hp.aC,Ob.aC,SV.dy,List.map_cons,List.map_nil] at h;exact h
set_option maxHeartbeats 4000000 in
theorem EF (X:Ix)(hX:X.small)(o:ag):SB Tryz.prog revoke_sorted_api_Dot.f [.fn (.func revoke_Index_threats_1.f) [] [.ptr 4 0,.ptr 5 0],.fn (.func revoke_Index_Threats_1.f) [] []] (IS X o) 6 (4+js 4)
  λ r F=>r= .gs 6 (Dt.set (X.jm o)).length/\F=(6,uz (Dt.set (X.jm o)) 6)::IS X o:=by
 have hlen:=uU X hX o;refine revoke_sorted_api_Dot.enter (by simp[SV.ax,SV.ok]) (zu X o (Nat.le_refl 6)) (by simp) ?_;dsimp only[revoke_sorted_api_Dot.s,Co.M,Co.J,Co.F,Co.b8,Co.aB,Co.T,Co.K,Co.P,Co.x,Co.W,Co.S];refine SW.seq (SW.g0 ii Zm aa ?_);refine SW.seq (SW.g0 ii Zm aa ?_);refine SW.yY 7 31 37 2 (by rfl) ?_;refine SW.seq (SW.seq (SW.g0 ii Zm aa ?_));refine SW.block (SW.sU (nk:=js 4) [5,3] [.ptr 7 0,.ptr 6 0] rfl ⟨rfl,rfl,trivial⟩ λ ca cb hca hcb=> ?_)
 let s0:Ew:=⟨[],8⟩
 have hy:=OR (y:=9) (bx:=7) (bf:=6) (by decide) (by decide) (by decide) hca hcb;have hF0:(iE 9 7 6 ca cb s0).ok (λ n=>decide (n<10))=true:=by simp[iE,s0,Hp.ok,Ob.ok,SV.ax,SV.ok]
 have hO:pY (TG X o 4 5) (iE 9 7 6 ca cb) s0 10:=by
  refine⟨by simp,λ n hn=> ?_,λ n hn=> ?_,zu X o (by omega),hF0⟩
  .simp only[TG,List.map_cons,List.map_nil,List.mem_cons,List.not_mem_nil,or_false] at hn;omega
  .simp only[TG,List.map_cons,List.map_nil,List.mem_cons,List.not_mem_nil,or_false] at hn
   rcases hn with rfl|rfl|rfl|rfl|rfl|rfl<;>simp[iE,s0,af,bA]
 have h0:TI X o (iE 9 7 6 ca cb) OQ (OP 9 7 6) s0 10 4 5 10 (X.jm o) s0 10:=⟨⟨[],.nil,rfl⟩,⟨⟨by decide,by decide,by decide⟩,by show 0+_<=_;omega⟩,hO,Nat.le_refl _,by decide,λ n hn=> .inl hn⟩;have hsb:=J7 (y:=9) (bx:=4) (bo:=5) (k:=10) X hX o s0 hy h0;have hsubF:HSub (TG X o 4 5++iE 9 7 6 ca cb s0) ((9,.qo 17 [5,3] [.ptr 7 0,.ptr 6 0] [8] ca cb .ready none)::(7,.box 31 [.gs 8 0])::(8,.arr 37 2 0 [])::(7,.box 31 [.d .aL])::(6,.box 123 [.fn (.func revoke_Index_Threats_1.f) [] []])::IS X o):=by
  intro n ob hn
  match n with
  | 0|1|2|3|4|5|6|7|8|9=>simpa[TG,iE,s0,af] using hn
  | n+10=>simp[TG,iE,s0,af,bA] at hn
 have hsc:=(hsb.here (λ n=>decide (n<10)) (λ n hn=> ?_) (by simp[SV.ax,SV.ok]) (HK (zu X o (by omega)) hF0) ?_).frame hsubF
 .refine hsc.mono ?_
  rintro r F' ⟨F1,⟨rfl,s',hTI,rfl⟩,rfl⟩;obtain⟨xs,hon,hxs⟩:=hTI.h1;rw[List.append_nil] at hxs;have hl':=QE hon;obtain⟨L,rn⟩:=s';have hL:L=X.jm o:=by rw[hxs];simpa[s0] using hl'
  obtain⟨⟨b1,b2,b3⟩,_⟩:=hTI.h2;dsimp only at b1 b2 b3;have hno:∀ n,n∈(TG X o 4 5).map (·.1)->n≠rn:=λ n hn e=>by
   have:=hTI.own.no n hn;rw[e] at this;simp[iE,af,b1,b2,b3] at this
  have b4:=hno 4 (by simp);have b5:=hno 5 (by simp);have c0:=hno 0 (by simp);have c1:=hno 1 (by simp);have c2:=hno 2 (by simp);have c3:=hno 3 (by simp);rw[<- hL];have hlk:=iM (ro:=false) (F':=TG X o 4 5++iE 9 7 6 ca cb ⟨L,rn⟩) hsubF (λ h=>by cases h);generalize bU false _ _ _=G at hlk;have hG:∀ n ob,lk (TG X o 4 5++iE 9 7 6 ca cb ⟨L,rn⟩) n=some ob->lk G n=some ob:=λ n ob h=>by
   rw[hlk,fm (.inr (by rw[h];simp)),h]
  refine⟨none,hG 9 _ (by simp[TG,iE,af,mQ]),?_⟩;have hrn:rn<10+js 4:=by
   have:=(Hp.fu hTI.own.okF (show lk (iE 9 7 6 ca cb ⟨L,rn⟩) rn=some (.arr 37 2 L.length ((L.flatMap Dt.ds).map .d)) by simp[iE,af,b1,b2,b3])).1
   simpa using this
  refine SW.weak (λ n=>if n=8 then rn else n) (st1:=⟨[(5,.ptr 7 0)],(7,.box 31 [.gs 8 L.length])::(8,.arr 37 2 L.length ((L.flatMap Dt.ds).map .d))::IS X o,10⟩) ?_ ?_
  .have q7:=hG 7 (.box 31 [.gs rn L.length]) (by simp[TG,iE,af])
   have q8:=hG rn (.arr 37 2 L.length ((L.flatMap Dt.ds).map .d)) (by simp[TG,iE,af,b1,b2,b3,b4.symm,b5.symm,c0.symm,c1.symm,c2.symm,c3.symm]);have q4:=hG 4 (.box 27 [.ptr 0 0]) (by simp[TG,af]);have q5:=hG 5 (.box 43 o.cells) (by simp[TG,af]);have q0:=hG 0 (.box 110 [.any,.mp 1,.mp 2,.mp 3]) (by simp[TG,af]);have q1:=hG 1 (.map (au Dt.cells ov X.ops) X.co) (by simp[TG,af]);have q2:=hG 2 (.map (au Dt.cells dn X.ch) X.cc) (by simp[TG,af]);have q3:=hG 3 (.map (au Dt.cells dn X.me) X.cf) (by simp[TG,af]);refine⟨by show 6<=10;omega,λ n hn=>if_neg (by omega),?_,?_,?_⟩
   .simp[aJ,List.lookup,SV.aC,SV.ok]
   .simp[sV,dx,Ob.aC,SV.aN,SV.aC,SV.dy,SV.aW,Ob.ok,SV.ax,SV.ok,q7,q8,q4,q5,q0,q1,q2,q3,b1,ag.aq,ag.ah,cG,bG,h_,fE]
   .intro a ha b hb e
    simp only[IS,TG,List.map_cons,List.map_nil,List.mem_cons,List.not_mem_nil,or_false] at ha hb;rcases ha with rfl|rfl|rfl|rfl|rfl|rfl|rfl|rfl<;>rcases hb with rfl|rfl|rfl|rfl|rfl|rfl|rfl|rfl<;>simp at e<;>first|rfl|omega
  .refine SW.uN 8 (L.flatMap Dt.ds) rfl rfl ?_
   simp only[k9,SV.iJ,List.map_cons,List.map_nil,if_true,if_false,reduceIte,c_,Nat.reduceEqDiff,D1,IS,TG,Ix.h0,Ob.iJ,SV.j4];have e0:∀ m:MM Dt ag,(au Dt.cells ov m).map (λ e=>(e.1,e.2.1,e.2.2.iJ 8 L.length (L.flatMap Dt.ds)))=au Dt.cells ov m:=λ m=>vN (q:=λ _=>false) rfl (bG _ _)
   have e1:∀ m:MM Dt (List Dt),(au Dt.cells dn m).map (λ e=>(e.1,e.2.1,e.2.2.iJ 8 L.length (L.flatMap Dt.ds)))=au Dt.cells dn m:=λ m=>vN (q:=λ _=>false) rfl (fE _ _)
   have e2:SV.j4 8 L.length (L.flatMap Dt.ds) o.cells=o.cells:=SV.iK (q:=λ _=>false) rfl _ (ag.ah _ _);simp only[e0,e1,e2];have hs:=Ig L (by rw[hL];omega);refine SW.seq (SW.g1 ii Zm aa hs ?_);refine SW.weak (λ n=>if n=6 then 12 else n) (st1:=⟨[(4,.gs 6 (Dt.set L).length)],(6,uz (Dt.set L) 6)::IS X o,10+js 4⟩) ?_ (SW.ret ?_)
   .refine⟨by show 6<=10+js 4;omega,λ n hn=>if_neg (by omega),?_,?_,?_⟩
    .simp[aJ,List.lookup,SV.aC,SV.ok]
     omega
    .simp[sV,af,dx,Ob.aC,SV.aN,SV.aC,SV.dy,SV.aW,Ob.ok,SV.ax,SV.ok,ag.aq,ag.ah,cG,bG,h_,fE]
     omega
    .intro a ha b hb e
     simp only[IS,TG,List.map_cons,List.map_nil,List.mem_cons,List.not_mem_nil,or_false] at ha hb;rcases ha with rfl|rfl|rfl|rfl|rfl|rfl|rfl<;>rcases hb with rfl|rfl|rfl|rfl|rfl|rfl|rfl<;>simp at e<;>first|rfl|omega
   exact End.mk ((6,uz (Dt.set L) 6)::IS X o) (h4:=⟨rfl,rfl⟩) (h5:=by simp[fB,SV.ok];omega) (h6:=aA (by simp;omega) (SV.aW _) (zu X o (by omega))) (h7:=by show 6+(4+js 4)<=10+js 4;omega)
 .match n,hn with
  | 0,_|1,_|2,_|3,_|4,_|5,_|6,_|7,_|8,_|9,_=>simp[TG,iE,s0,af]
  | n +10,h=>
    have:n+10<10:=by simpa using h
    omega
 .rintro r F' _ h1 h2
  refine⟨SV.fD (λ n hn=> ?_) _ h1,Hp.eA (λ n hn=> ?_) h2⟩<;>(simp at hn ⊢;omega)
theorem EG (X:Ix)(hX:X.small)(o:ag)(k:Nat):aH Tryz.prog revoke_sorted_api_Dot.f [.fn (.func revoke_Index_threats_1.f) [] [.ptr 7 0,.ptr 8 0],.fn (.func revoke_Index_Threats_1.f) [] []] (TG X o 7 8) k (4+js 4) (.gs k (Dt.set (X.jm o)).length) ((k,uz (Dt.set (X.jm o)) k)::TG X o 7 8):=by
 have:=SB.lR [0,1,2,3,7,8] (EF X hX o) (by decide) (λ i hi=>by
  match i,hi with
  | 0,_|1,_|2,_|3,_|4,_|5,_=>simp[af]) k
 simpa[SV.aN,SV.aC,eu,ag.aq,Hp.aC,Ob.aC,cG,h_,SV.dy] using this
set_option maxHeartbeats 4000000 in
theorem Ih (X:Ix)(hX:X.small)(d:Dt)(hh:MM.has X.ops d=true):SB Tryz.prog revoke_Index_Threats.f [.ptr 0 0,.agg d.cells] X.h0 4 6 λ r F=>r= .dL [.gs 9 (X.kr d).length,i64 0]/\F=(9,uz (X.kr d) 9)::X.h0:=by
 refine revoke_Index_Threats.enter (by simp[SV.ax,SV.ok]) (X.zq (Nat.le_refl 4)) (by simp) ?_;dsimp only[revoke_Index_Threats.s,Co.M,Co.J,Co.F,Co.C,Co.Z,Co.bH,Co.T,Co.K,Co.E,Co.Q,Co.x,Co.Y,Co.D,Co.A,Co.S];have hl:=HL X hX d;have hT:X.kr d=Dt.set (X.jm (X.op d)):=by unfold Ix.kr;rw[if_pos hh]
 refine SW.seq (SW.g0 ik Zm aa ?_);refine SW.seq (SW.seq ?_);have hlv:mE X d= .dL [.d (.int .i64 (((X.qg d).length:Int) - 1)),i64 0]:=by unfold mE;rw[hh];rfl
 rw[hlv] at hl;refine SW.g1 ik Zm aa hl ?_;refine SW.seq (SW.g0 ik Zm aa ?_);refine SW.an rfl (SW.skip (SW.seq ?_));obtain⟨o,ho⟩:∃ o,(MM.get X.ops d).getD ag.zero=o:=⟨_,rfl⟩;have hto:X.op d=o:=ho;have hthr:aH Tryz.prog revoke_Index_threats.f [.ptr 0 0,.agg o.cells] X.h0 7 2 (.fn (.func revoke_Index_threats_1.f) [] [.ptr 7 0,.ptr 8 0]) ((8,.box 43 o.cells)::(7,.box 27 [.ptr 0 0])::X.h0):=Ex X o 7;have hs:=EG X hX o;rw[hT,hto];generalize Dt.set (X.jm o)=R at hs;refine SW.g2 ik Zm ho hthr hs ?_;refine SW.ret ?_;exact End.mk ((9,uz R 9)::X.h0) (h4:=⟨rfl,rfl⟩) (h6:=aA (by simp) (SV.aW _) (X.zq (by omega))) (h7:=by show 4+6<=7+2+(4+js 4);omega)
end Go.Proofs.YtaelhkkjgfobhaaGreat
namespace Go.Proofs.YtaelhkkjgfobhaaGreat
open Go.Sl Go.Proofs
section
section
variable (jm:Dt->List Dt)
def IU:Nat->Dt->Bool
 | 0,_=>true
 | n+1,d=>(jm d).all λ t=> !IU n t
def oR (K:KM)(d:Dt):List Dt:=(jm d).filter λ t=>decide (K.get t=2)
def A8 (K:KM)(d:Dt):KM:=if (oR jm (K.put d 2) d).length>0 then (K.put d 2).put d 1 else K.put d 2
def jq (ds:List Dt):KM:=ds.foldl (λ K d=>K.put d 0) ⟨[],0⟩
def Kn (K:KM)(xs:List Dt):KM:=xs.foldl (A8 jm) K
theorem wP (ds:List Dt)(d:Dt):jq (ds++[d])=(jq ds).put d 0:=by unfold jq;rw[List.foldl_append];rfl
theorem A9 (K:KM)(xs:List Dt)(d:Dt):Kn jm K (xs++[d])=A8 jm (Kn jm K xs) d:=by unfold Kn;rw[List.foldl_append];rfl
variable {jm}
theorem A_ {lv:Dt->Nat}(hlv:∀ d t,t∈jm d->lv t<lv d):∀ (n m:Nat) (d:Dt),lv d<n->lv d<m->IU jm n d=IU jm m d
 | 0,_,_,h,_=>absurd h (Nat.not_lt_zero _)
 | _,0,_,_,h=>absurd h (Nat.not_lt_zero _)
 | n +1,m+1,d,h1,h2=>by
  simp only[IU];rw[Bool.eq_iff_iff,List.all_eq_true,List.all_eq_true];have key:∀ t,t∈jm d->IU jm n t=IU jm m t:=λ t ht=>by
   have:=hlv d t ht;exact A_ hlv n m t (by omega) (by omega)
  exact⟨λ h t ht=>by rw[<- key t ht];exact h t ht,λ h t ht=>by rw[key t ht];exact h t ht⟩
structure VI (gv:Dt->Bool)(ds xs:List Dt)(K:KM):Prop where
 wf:MM.wf K.m K.c
 keys:∀ d,MM.has K.m d=true↔d∈ds
 get:∀ d,K.get d=if d∈xs then (if gv d then 2 else 1) else 0
theorem KM.nN (K:KM)(d:Dt)(n:Nat)(e:Dt):MM.has (K.put d n).m e=(decide (e=d) || MM.has K.m e):=MM.nN
theorem KM.gx {K:KM}(h:MM.wf K.m K.c)(d:Dt)(n:Nat):MM.wf (K.put d n).m (K.put d n).c:=MM.gx h d n
theorem Ii:∀ n (ds:List Dt),ds.length=n->MM.wf (jq ds).m (jq ds).c/\(∀ d,MM.has (jq ds).m d=true↔d∈ds)/\∀ d,(jq ds).get d=0:=by
 intro n
 induction n with
 | zero=>
  intro ds h;rw[List.eq_nil_of_length_eq_zero h];exact⟨MM.lu,λ d=>by simp[jq,MM.has,MM.get],λ d=>by simp[jq,KM.get,MM.get]⟩
 | succ n ih=>
  intro ds h;have hne:ds≠[]:=λ e=>by rw[e] at h;cases h
  obtain⟨t,d,rfl⟩:∃ t d,ds=t++[d]:=⟨ds.dropLast,ds.getLast hne,(List.dropLast_concat_getLast hne).symm⟩;obtain⟨h1,h2,h3⟩:=ih t (by simp at h;exact h);rw[wP];refine⟨KM.gx h1 _ _,λ e=> ?_,λ e=> ?_⟩
  .rw[KM.nN,Bool.or_eq_true,decide_eq_true_eq,h2,List.mem_append,List.mem_singleton,or_comm]
  .rw[KM.dP]
   split
   .rfl
   .exact h3 e
theorem VI.zero (gv:Dt->Bool)(ds:List Dt):VI gv ds [] (jq ds):=by
 obtain⟨h1,h2,h3⟩:=Ii _ ds rfl;exact⟨h1,h2,λ d=>by rw[h3,if_neg (by simp)]⟩
theorem VI.step {gv:Dt->Bool}{ds xs:List Dt}{K:KM}(h:VI gv ds xs K){x:Dt}(hx:x∈ds)(ht:∀ t,t∈jm x->t∈xs/\t≠x)(hg:gv x=(jm x).all λ t=> !gv t):VI gv ds (xs++[x]) (A8 jm K x):=by
 have hp:∀ t,t∈jm x->((K.put x 2).get t=2↔gv t=true):=λ t htt=>by
  obtain⟨h1,h2⟩:=ht t htt;rw[KM.dP,if_neg h2,h.get,if_pos h1];cases gv t<;>simp
 have hh:(oR jm (K.put x 2) x).length>0↔gv x=false:=by
  rw[hg,List.all_eq_false];unfold oR;rw[gt_iff_lt,List.length_pos_iff_exists_mem];simp only[List.mem_filter,decide_eq_true_eq];constructor
  .rintro⟨t,h1,h2⟩
   exact⟨t,h1,by simp[(hp t h1).1 h2]⟩
  .rintro⟨t,h1,h2⟩
   exact⟨t,h1,(hp t h1).2 (by simpa using h2)⟩
 have hk:∀ d,d=x\/d∈ds↔d∈ds:=λ d=>⟨λ h=>h.elim (λ e=>by rw[e];exact hx) id,.inr⟩
 unfold A8
 by_cases hc:(oR jm (K.put x 2) x).length>0
 .have hgf:=hh.1 hc
  rw[if_pos hc];refine⟨KM.gx (KM.gx h.wf _ _) _ _,λ d=> ?_,λ d=> ?_⟩
  .rw[KM.nN,KM.nN,Bool.or_eq_true,Bool.or_eq_true,decide_eq_true_eq,h.keys,hk,hk]
  .rw[KM.dP,KM.dP,h.get]
   by_cases e:d=x
   .subst e;simp[hgf]
   .simp[e]
 .have hgf:gv x=true:=by
   cases hgx:gv x with
   | true=>rfl
   | false=>exact absurd (hh.2 hgx) hc
  rw[if_neg hc];refine⟨KM.gx h.wf _ _,λ d=> ?_,λ d=> ?_⟩
  .rw[KM.nN,Bool.or_eq_true,decide_eq_true_eq,h.keys,hk]
  .rw[KM.dP,h.get]
   by_cases e:d=x
   .subst e;simp[hgf]
   .simp[e]
theorem Ij {gv:Dt->Bool}{ds L:List Dt}(hds:∀ d,d∈L->d∈ds)(OY:∀ A x B,L=A++x::B->∀ t,t∈jm x->t∈A/\t≠x)(hg:∀ d,gv d=(jm d).all λ t=> !gv t):∀ i,i<=L.length->VI gv ds (L.take i) (Kn jm (jq ds) (L.take i))
 | 0,_=>VI.zero gv ds
 | i +1,hi=>by
  obtain⟨x,hx⟩:=aX (show i<L.length by omega);have hxm:=List.mem_of_getElem? hx;have e:=dY hx;have he:L=L.take i++x::L.drop (i+1):=by
   have:L[i]=x:=by rw[List.getElem?_eq_getElem (by omega)] at hx;exact Option.some.inj hx
   rw[<- this,<- List.drop_eq_getElem_cons,List.take_append_drop]
  rw[e,A9];exact(Ij hds OY hg i (by omega)).step (hds x hxm) (OY _ _ _ he) (hg x)
end
theorem nj {l:List ag}{d t:Dt}:t∈dz l d↔dD l d=true/\dD l t=true/\wF l d t=true:=by
 unfold dz
 split
 .rename_i h
  rw[List.mem_filter,jR];exact⟨λ h2=>⟨h,h2⟩,λ h2=>h2.2⟩
 .rename_i h
  exact⟨λ h2=>(by cases h2),λ h2=>absurd h2.1 h⟩
theorem jS {l:List ag}{d:Dt}(h:dD l d=true):∃ o,a_ l d=some o/\jQ l o=0/\uy l d=o/\o.dot=d:=by
 unfold dD at h;cases hf:a_ l d with
 | none=>rw[hf] at h;cases h
 | some o=>
  rw[hf] at h;exact⟨o,rfl,of_decide_eq_true h,bD hf,fK hf⟩
theorem qk {l:List ag}{d t:Dt}(h:t∈dz l d):ia l t<ia l d:=by
 obtain⟨h1,h2,h3⟩:=nj.1 h;obtain⟨o,_,ho,e1,_⟩:=jS h1;obtain⟨r,_,hr,e2,_⟩:=jS h2;unfold wF zx at h3;rw[e1,e2] at h3;simp only[Bool.and_eq_true,decide_eq_true_eq] at h3;unfold ia;rw[e1,e2];exact(J_ ho hr h3.1 h3.2.1).1
noncomputable def Cs (l:List ag)(d:Dt):Bool:=IU (dz l) (ia l d+1) d
theorem tK (l:List ag)(d:Dt):Cs l d=(dz l d).all λ t=> !Cs l t:=by
 unfold Cs;show((dz l d).all λ t=> !IU (dz l) (ia l d) t)=_;rw[Bool.eq_iff_iff,List.all_eq_true,List.all_eq_true];have key:∀ t,t∈dz l d->IU (dz l) (ia l d) t=IU (dz l) (ia l t+1) t:=λ t ht=>
  A_ (lv:=ia l) (λ _ _ h=>qk h) _ _ t (qk ht) (Nat.lt_succ_self _)
 exact⟨λ h t ht=>by rw[<- key t ht];exact h t ht,λ h t ht=>by rw[key t ht];exact h t ht⟩
noncomputable def jv (l:List ag)(d:Dt):Nat:=if dD l d then (if Cs l d then 2 else 1) else 0
theorem Ba {l:List ag}{j:Nat}{L:List Dt}(h:(mG l)[j]? =some L):L=(kC l).filter λ v=>decide (ia l v=j):=by
  unfold mG at h;rw[List.getElem?_map] at h;obtain⟨i,hi,rfl⟩:=Option.map_eq_some_iff.1 h;rw[List.getElem?_range] at hi
  . injection hi with hi
    rw[hi]
  . by_cases hj:j<yo (ia l) (kC l)
    . exact hj
    . rw[List.getElem?_eq_none (by simpa using hj)] at hi
      cases hi
theorem pK {l:List ag}{d:Dt}:d∈(mG l).flatten↔dD l d=true:=by
 rw[List.mem_flatten,<- jR];constructor
 .rintro⟨L,hL,hd⟩
  obtain⟨j,hj⟩:=List.mem_iff_getElem?.1 hL;rw[Ba hj] at hd;exact(List.mem_filter.1 hd).1
 .intro hd
  refine⟨_,List.mem_map.2 ⟨ia l d,List.mem_range.2 (qh hd),rfl⟩,List.mem_filter.2 ⟨hd,by simp⟩⟩
theorem pM {c:Dt->Nat}:∀ (R:List (List Dt)) (b:Nat),(∀ j L,R[j]? =some L->∀ d,d∈L->c d=b+j)->∀ A x B,R.flatten=A++x::B->∀ t,t∈R.flatten->c t<c x->t∈A
 | [],_,_,A,x,B,h,t,ht,_=>by simp at ht
 | L ::R,b,hR,A,x,B,h,t,ht,hlt=>by
  rw[List.flatten_cons] at h ht;have h0:=hR 0 L rfl;have hR':∀ j M,R[j]? =some M->∀ d,d∈M->c d=(b+1)+j:=λ j M hj d hd=>by
   have:=hR (j+1) M hj d hd;omega
  have hge:∀ d,d∈R.flatten->b<c d:=λ d hd=>by
   obtain⟨M,hM,hd⟩:=List.mem_flatten.1 hd;obtain⟨j,hj⟩:=List.mem_iff_getElem?.1 hM;have:=hR' j M hj d hd;omega
  rcases List.append_eq_append_iff.1 h with⟨C,e1,e2⟩|⟨C,e1,e2⟩
  ·
   rw[e1];rcases List.mem_append.1 ht with ht|ht
   .exact List.mem_append.2 (.inl ht)
   .exact List.mem_append.2 (.inr (pM R (b+1) hR' C x B e2 t ht hlt))
  ·
   have hx:x∈L\/(C=[]/\x∈R.flatten):=by
    cases C with
    | nil=>exact .inr ⟨rfl,by rw[List.nil_append] at e2;rw[<- e2];simp⟩
    | cons y C=>
     rw[List.cons_append] at e2;injection e2 with e3 e4;exact .inl (by rw[e1,e3];simp)
   rcases hx with hx|⟨hC,hx⟩
   .have hcx:=h0 x hx
    rcases List.mem_append.1 ht with ht|ht
    .have:=h0 t ht;omega
    .have:=hge t ht;omega
   .subst hC
    rw[List.append_nil] at e1;rw[List.nil_append] at e2;rw[<- e1];rcases List.mem_append.1 ht with ht|ht
    .exact ht
    .have:=pM R (b+1) hR' [] x B (by rw[<- e2];rfl) t ht hlt
     cases this
noncomputable def dQ (l:List ag):KM:=Kn (dz l) (jq (qB l)) (mG l).flatten
theorem qm (l:List ag):VI (Cs l) (qB l) (mG l).flatten (dQ l):=by
 have:=Ij (jm:=dz l) (gv:=Cs l) (ds:=qB l) (L:=(mG l).flatten) (λ d hd=>A6 (pK.1 hd)) (λ A x B e t ht=>by
  have hlt:=qk ht;refine⟨pM (c:=ia l) (mG l) 0 (λ j L hj d hd=> ?_) A x B e t (pK.2 (wK ht)) hlt,λ e=>by rw[e] at hlt;omega⟩;rw[Ba hj] at hd;have:=of_decide_eq_true (List.mem_filter.1 hd).2;omega) (tK l) _ (Nat.le_refl _)
 rw[List.take_length] at this;exact this
theorem ej (l:List ag)(d:Dt):(dQ l).get d=jv l d:=by
 rw[(qm l).get];unfold jv
 by_cases h:dD l d=true
 .rw[if_pos (pK.2 h),if_pos h]
 .rw[if_neg (λ h2=>h (pK.1 h2)),if_neg h]
end
section
attribute [local irreducible] SW RW aH SC aj ak js sG
abbrev uf (K:KM):Ob:= .map (au Dt.cells kv K.m) K.c
theorem Ik (K:KM)(x:Dt):SB Tryz.prog verdict_hits_1.f [.agg x.cells,.ptr 1 0] [(1,.box 76 [.mp 0]),(0,uf K)] 2 0 λ r F=>r=bl (!decide (K.get x=2))/\F=[(1,.box 76 [.mp 0]),(0,uf K)]:=by
 refine verdict_hits_1.enter (by simp[SV.ax,SV.ok,Dt.ah]) (by simp[Hp.ok,Ob.ok,SV.ax,SV.ok,dH]) (by simp) ?_;dsimp only[verdict_hits_1.s,Co.M,Co.J,Co.F,Co.B,Co.b8,Co.T,Co.K,Co.x,Co.S];have hlk:=kJ K.m x;change _=SV.d (.int .u8 ((K.get x:Nat):Int)) at hlk;have g2:(((K.get x:Nat):Int) != 2)= !decide (K.get x=2):=by
  by_cases h:K.get x=2
  .rw[h];rfl
  .have:((K.get x:Nat):Int)≠2:=by omega
   simp[h,this]
 refine SW.seq (SW.g0 ib Zm aa ?_);refine SW.seq (SW.g0 ib Zm (Zq hlk g2) ?_);refine SW.ret ?_;exact End.mk [(1,.box 76 [.mp 0]),(0,uf K)] (h4:=⟨rfl,rfl⟩) (h6:=by simp[Hp.ok,Ob.ok,SV.ax,SV.ok,dH])
abbrev OZ (K:KM):Hp:=[(5,.box 76 [.mp 4]),(4,uf K)]
theorem Il (K:KM)(x:Dt)(k:Nat):aH Tryz.prog verdict_hits_1.f [.agg x.cells,.ptr 5 0] (OZ K) k 0 (bl (!decide (K.get x=2))) (OZ K):=by
 have:=SB.lR [4,5] (Ik K x) (by decide) (λ i hi=>by
  match i,hi with
  | 0,_|1,_=>simp[af]) k
 simpa[SV.aN,SV.aC,eu,Dt.aq,Hp.aC,Ob.aC,fP] using this
theorem Ko (K:KM)(B:Nat):wJ (σ:=Unit) Tryz.prog verdict_hits_1.f [] [.ptr 5 0] (λ _=>OZ K) (λ _ x=>((),!decide (K.get x=2))) 0 (λ _ _=>True) (λ _=>True) B where
 nd s:=by simp
 nm s x:=rfl
 nx _ _ _ _ _ _:=trivial
 ok s x q h:=h
 call i s x k _ _ _ _:=Il K x k
 a1 s q h:=by
  simp only[Hp.ok,List.all_cons,Bool.and_eq_true] at h;exact⟨rfl,by simp[SV.ax,SV.ok,h.1.1]⟩
theorem sA (p:Dt->Bool):∀ L:List Dt,fz (λ (_:Unit) x=>((),!p x)) () L=(L.filter p,())
 | []=>rfl
 | x::L=>by
  simp only[fz];rw[sA p L];cases h:p x<;>simp[h]
theorem Ct (K:KM)(L:List Dt)(hL:L.length<1000000000):aH Tryz.prog slices_DeleteFunc_Lapi_Dot_api_Dot.f [.gs 12 L.length,.fn (.func verdict_hits_1.f) [] [.ptr 5 0]] ((12,uz L 12)::OZ K) 13 (L.length*0+L.length*(0+1))
  (.gs 12 (L.filter λ t=>decide (K.get t=2)).length) ((12,uz (L.filter λ t=>decide (K.get t=2)) 12)::OZ K):=by
 have:=Cf (Ko K L.length) L () hL (Nat.le_refl _) (λ _ _=>trivial) trivial 12 13 (by decide) ⟨rfl,by simp[Hp.ok,Ob.ok,SV.ax,SV.ok,dH],by simp[af,bA]⟩ (by simp[Hp.ok,Ob.ok,SV.ax,SV.ok,dH,af]);rw[sA (λ t=>decide (K.get t=2)) L] at this;exact this
theorem Kp (X:Ix)(hX:X.small)(d:Dt)(hh:MM.has X.ops d=true)(k:Nat):aH Tryz.prog revoke_Index_Threats.f [.ptr 0 0,.agg d.cells] X.h0 k 6 (.dL [.gs (k+5) (X.kr d).length,i64 0]) ((k+5,uz (X.kr d) 9)::X.h0):=by
 have:=SB.lR [0,1,2,3] (Ih X hX d hh) (by decide) X.OM k;simp[SV.aN,SV.aC,eu,Dt.aq,Hp.aC,Ob.aC,cG,h_,SV.dy] at this;rw[Nat.add_comm 5 k] at this;exact this
set_option maxHeartbeats 4000000 in
theorem Dz (X:Ix)(hX:X.small)(K:KM)(d:Dt)(hh:MM.has X.ops d=true)(hT:(X.kr d).length<1000000000):SB Tryz.prog verdict_hits.f [.ptr 0 0,.mp 4,.agg d.cells] ((4,uf K)::X.h0) 5 8
  λ r F=>r= .gs 12 (oR X.kr K d).length/\F=(12,uz (oR X.kr K d) 12)::(4,uf K)::X.h0:=by
 refine verdict_hits.enter (by simp[SV.ax,SV.ok,Dt.ah]) (aA (by simp) (dH _ _) (X.zq (by decide))) (by simp) ?_;dsimp only[verdict_hits.s,Co.M,Co.J,Co.F,Co.K,Co.E,Co.Q,Co.x,Co.S];have cT:aH Tryz.prog revoke_Index_Threats.f [.ptr 0 0,.agg d.cells] X.h0 7 6 (.dL [.gs 12 (X.kr d).length,i64 0]) ((12,uz (X.kr d) 9)::X.h0):=Kp X hX d hh 7;have cD:=Ct K (X.kr d) hT;unfold oR;generalize X.kr d=L at cT cD hT ⊢;refine SW.seq (SW.g0 eK Zm aa ?_);refine SW.seq (SW.g1 eK Zm aa cT ?_);refine SW.seq (SW.g1 eK Zm aa cD ?_);refine SW.ret ?_;generalize (L.filter λ t=>decide (K.get t=2))=R;exact End.mk ((12,uz R 12)::(4,uf K)::X.h0) (h4:=⟨rfl,rfl⟩) (h6:=aA (by simp) (SV.aW _) (aA (by simp) (dH _ _) (X.zq (by decide))))
end
section
attribute [local irreducible] SW RW aH SC aj ak js sG
abbrev vH (X:Ix)(K:KM):Hp:=(15,uf K)::X.Ll
theorem ug (X:Ix)(K:KM){k:Nat}(hk:16<=k):(vH X K).ok (λ n=>decide (n<k))=true:=
 aA (by simp;omega) (dH _ _) (aA (by simp;omega) (by simp[Ob.ok,SV.ax,SV.ok];omega) (aA (by simp;omega) (bG _ _) (aA (by simp;omega) (fE _ _) (aA (by simp;omega) (fE _ _) rfl))))
theorem Im (X:Ix)(K:KM):∀ y,y∈vH X K->lk (vH X K) y.1=some y.2:=λ y hy=>by
 simp only[List.mem_cons,List.not_mem_nil,or_false] at hy;rcases hy with rfl|rfl|rfl|rfl|rfl<;>rfl
theorem M9 (X:Ix)(K:KM)(o:Ob):∀ y,y∈vH X K->lk ((16,o)::vH X K) y.1=some y.2:=λ y hy=>by
 simp only[List.mem_cons,List.not_mem_nil,or_false] at hy;rcases hy with rfl|rfl|rfl|rfl|rfl<;>rfl
theorem Kq (X:Ix)(hX:X.small)(K:KM)(d:Dt)(hh:MM.has X.ops d=true)(hT:(X.kr d).length<1000000000)(k:Nat):aH Tryz.prog verdict_hits.f [.ptr 14 0,.mp 15,.agg d.cells] (vH X K) k 8 (.gs (k+7) (oR X.kr K d).length) ((k+7,uz (oR X.kr K d) 12)::vH X K):=by
 have:=SB.lR [14,11,12,13,15] (Dz X hX K d hh hT) (by decide) (λ i hi=>by
  match i,hi with
  | 0,_|1,_|2,_|3,_|4,_=>simp[af]) k
 generalize oR X.kr K d=R at this ⊢;simp[SV.aN,SV.aC,eu,Dt.aq,Hp.aC,Ob.aC,cG,h_,fP,SV.dy] at this;rw[Nat.add_comm 7 k] at this;exact this
theorem Io {X:Ix}(hX:X.small)(h9:∀ d,X.oP d<=9)(k:Nat):aH Tryz.prog revoke_Index_Levels.f [.ptr 14 0] X.Ll k yq (ic X.mG) X.Ll:=Ix.PK (HT X hX h9) (λ k=>by simp[SV.aN,SV.aC,eu]) (λ k=>by simp[ic,SV.aC]) k
theorem Ip (l:List ag):(kC l).length<=l.length:=by
 unfold kC;refine Nat.le_trans (Dt.Cb _) ?_;unfold A1;rw[List.length_map];exact List.length_filter_le _ _
theorem jG {R:List (List Dt)}{j:Nat}{L:List Dt}(h:R[j]? =some L):(R.take (j+1)).flatten=(R.take j).flatten++L:=by rw[dY h,List.flatten_append];simp
set_option maxHeartbeats 16000000 in
theorem Iq (l:List ag)(hl:l.length<=80)(hrow:lN l):SB Tryz.prog verdict_all.f [ops l] [] 0 16 λ r F=>∃ S,∃ h:dw l S,r= .dL [.mp 15,.ptr 14 0]/\F=vH h.X (dQ l):=by
 refine verdict_all.enter (by first|rfl|simp[SV.ok,SV.ax]) (by first|rfl|simp[Hp.ok,Ob.ok,SV.ok,SV.ax,ay.ah]) (by simp) ?_;dsimp only[verdict_all.s,Co.M,Co.J,Co.N,Co.F,Co.Z,Co.b8,Co.aB,Co.T,Co.K,Co.L,Co.P,Co.R,Co.W,Co.Y,Co.V,Co.I,Co.S];refine SW.seq (SW.g0 ap Zm aa ?_);refine SW.seq (SW.xU ?_);(repeat (first|refine bq.op aa (h:=?_)|refine bq.dV aa (h:=?_)|refine bq.skip (h:=?_)));refine bq.bC (My l (by omega) (λ o ho=>⟨(hrow o ho).1,(hrow o ho).2.1⟩)) (HSub.nil _) (h:=?_);rintro _ _ ⟨S,h,rfl,rfl⟩;simp only[bU,de,dg,gf,gJ,c_,lk,List.lookup,Nat.reduceBEq,BEq.rfl,beq_self_eq_true,if_true,if_false,reduceIte,Nat.reduceEqDiff,Bool.false_eq_true,Option.isSome_some,Option.isSome_none,Nat.reduceAdd];(repeat (first|refine bq.op aa (h:=?_)|refine bq.dV aa (h:=?_)|refine bq.skip (h:=?_)));refine bq.nil ?_;have cN:=h.PO hl (h.short hrow);have cD:=h.Hw hl;have hsm:=h.small hl;have hT:=h.Ly hl;have eT:=h.Dy;have hhas:∀ d,MM.has h.X.ops d=dD l d:=λ d=>by rw[h.HO,h.ue]
 have h9:∀ d,h.X.oP d<=9:=λ d=>by have:=h.PW d;omega
 have cL:=Io hsm h9;rw[h.PU] at cL;have hc9:∀ v,v∈kC l->ia l v<=9:=λ v hv=>by
  have hg:S.good v=true:=by rw[h.ue];exact jR.1 hv
  rw[<- h.Lx hg];exact h9 v
 have hRl:(mG l).length<=10:=by
  unfold mG;rw[List.length_map,List.length_range];exact tG λ v hv=>by have:=hc9 v hv;omega
 have hRs:∀ L,L∈mG l->Dt.set L=L/\L.length<=80/\∀ d,d∈L->dD l d=true:=λ L hL=>by
  refine⟨HU hL,?_,λ d hd=>pK.1 (List.mem_flatten.2 ⟨L,hL,hd⟩)⟩;obtain⟨j,_,rfl⟩:=List.mem_map.1 hL;have h2:=List.length_filter_le (λ v=>decide (ia l v=j)) (kC l);have h3:=Ip l;omega
 have hds:(qB l).length<=80:=h.nJ hl;have hV:dQ l=Kn (dz l) (jq (qB l)) (mG l).flatten:=rfl;refine SW.seq (SW.g1 ap Zm aa cN ?_);refine SW.seq (SW.g0 ap Zm aa ?_);refine SW.seq (SW.seq (SW.g1 ap Zm aa cD ?_));obtain⟨X,eX⟩:∃ X,h.X=X:=⟨_,rfl⟩;rw[eX] at hsm hT eT h9 cL;simp only[eX] at hhas;obtain⟨D,eD⟩:∃ D,qB l=D:=⟨_,rfl⟩;rw[eD] at hV hds;obtain⟨R,eR⟩:∃ R,mG l=R:=⟨_,rfl⟩;rw[eR] at hV hRl hRs cL;simp only[eX,eD];refine SW.block (SW.loop (α:={i:Nat // i<=D.length}) (λ i=>⟨[(21,i64 i.1),(20,i64 D.length),(19,bN D),(6,.mp 15),(5,.ptr 14 0)],vH X (jq (D.take i.1)),16⟩) (λ i=>D.length - i.1) ⟨0,Nat.zero_le _⟩ id (aG.same (Nat.zero_le _) (by simp[aJ,List.lookup,SV.aC,SV.ok,SV.ax]) (ug _ _ (Nat.le_refl _)) (λ y hy=> ?_)) ?_)
 .simp only[List.mem_cons,List.not_mem_nil,or_false] at hy
  rcases hy with rfl|rfl|rfl|rfl|rfl<;>rfl
 rintro⟨i,hi⟩;dsimp only
 by_cases hik:i<D.length
 .have h1:decide ((i:Int)<D.length)=true:=by simp only[decide_eq_true_eq];omega
  obtain⟨d,hx⟩:=aX hik;have e2:IntKind.i64.wrap ((i:Int)+1)=((i+1:Nat):Int):=wrap_i64 _ (by omega);have hz:=wP (D.take i) d;rw[<- dY hx] at hz;generalize jq (D.take i)=K at hz ⊢;have m0:kA (au Dt.cells kv K.m) K.c (.agg d.cells) (.d (.int .u8 0)) (MM.idx K.m d)= .map (au Dt.cells kv (K.put d 0).m) (K.put d 0).c:=zz K.m K.c d 0;dsimp only[vH,Ix.Ll,uf];refine SW.seq (SW.g0 ap Zm h1 ?_);refine SW.seq (SW.ai rfl (SW.skip (SW.seq (SW.block (SW.seq (SW.g0 ap Zm (Zq (jI hx) (ng hx)) ?_))))));refine SW.g0 ap Zm m0 ?_;refine SW.g0 ap Zm e2 ?_;refine⟨⟨i+1,by omega⟩,id,by show D.length - (i+1)<D.length - i;omega,?_⟩;dsimp only;rw[hz];exact aG.same (Nat.zero_le _) (by simp[aJ,List.lookup,SV.aC,SV.ok,SV.ax]) (ug _ _ (Nat.le_refl _)) (M9 X _ _)
 have h1:decide ((i:Int)<D.length)=false:=by simp only[decide_eq_false_iff_not];omega
 rw[List.take_of_length_le (show D.length<=i by omega)];refine SW.seq (SW.g0 ap Zm h1 ?_);refine SW.seq (SW.an rfl (SW.exit ?_));refine(?_:Sl.SW _ _ _ _ _ _);refine SW.seq (SW.g1 ap Zm aa cL ?_);refine SW.seq (SW.seq ?_);simp only[ic];refine SW.g0 ap Zm aa ?_;refine SW.block (SW.loop (α:={k:Nat // k<=R.length}) (λ k=>⟨[(32,i64 k.1),(31,i64 R.length),(9,ic R),(6,.mp 15),(5,.ptr 14 0)],vH X (Kn (dz l) (jq D) (R.take k.1).flatten),16⟩) (λ k=>R.length - k.1) ⟨0,Nat.zero_le _⟩ id (aG.same (Nat.zero_le _) (by simp[aJ,List.lookup,SV.aC,SV.ok,SV.ax,ic]) (ug _ _ (Nat.le_refl _)) (Im X _)) ?_);rintro⟨k,hk⟩;dsimp only
 by_cases hkk:k<R.length
 .have h1:decide ((k:Int)<R.length)=true:=by simp only[decide_eq_true_eq];omega
  obtain⟨L,hx⟩:=aX hkk;have e2:IntKind.i64.wrap ((k:Int)+1)=((k+1:Nat):Int):=wrap_i64 _ (by omega);obtain⟨hL1,hL80,hLg⟩:=hRs L (List.mem_of_getElem? hx);have g1:(List.map SV.d (R.map λ L=>IT (Dt.set L)))[k]? =some (bN L):=by
   have:(List.map SV.d (R.map λ L=>IT (Dt.set L)))[k]? =some (.d (IT (Dt.set L))):=by rw[List.getElem?_map,List.getElem?_map,hx];rfl
   rw[this,hL1];rfl
  have hft:=jG hx;simp only[ic];refine SW.seq ?_;refine SW.g0 ap Zm h1 ?_;refine SW.seq (SW.ai rfl (SW.skip ?_));refine SW.seq (SW.block (SW.seq ?_));refine SW.g0 ap Zm aa ?_;refine SW.seq ?_;refine SW.g0 ap Zm g1 ?_;refine SW.block ?_;refine SW.loop (α:={i:Nat // i<=L.length}) (λ i=>⟨[(40,i64 i.1),(39,i64 L.length),(38,bN L),(32,i64 k),(31,i64 R.length),(9,ic R),(6,.mp 15),(5,.ptr 14 0)],vH X (Kn (dz l) (jq D) ((R.take k).flatten++L.take i.1)),16⟩) (λ i=>L.length - i.1) ⟨0,Nat.zero_le _⟩ id (by
   dsimp only;rw[List.take_zero,List.append_nil];exact aG.same (Nat.zero_le _) (by simp[aJ,List.lookup,SV.aC,SV.ok,SV.ax,ic]) (ug _ _ (Nat.le_refl _)) (Im X _)) ?_
  rintro⟨i,hi⟩;dsimp only
  by_cases hil:i<L.length
  .have h3:decide ((i:Int)<L.length)=true:=by simp only[decide_eq_true_eq];omega
   obtain⟨d,hd⟩:=aX hil;have e4:IntKind.i64.wrap ((i:Int)+1)=((i+1:Nat):Int):=wrap_i64 _ (by omega);have hh:MM.has X.ops d=true:=by rw[hhas];exact hLg d (List.mem_of_getElem? hd)
   have hvs:=A9 (dz l) (jq D) ((R.take k).flatten++L.take i) d;rw[List.append_assoc,<- dY hd] at hvs;generalize Kn (dz l) (jq D) ((R.take k).flatten++L.take i)=K at hvs ⊢;have m2:kA (au Dt.cells kv K.m) K.c (.agg d.cells) (.d (.int .u8 2)) (MM.idx K.m d)= .map (au Dt.cells kv (K.put d 2).m) (K.put d 2).c:=zz K.m K.c d 2;have m1:kA (au Dt.cells kv (K.put d 2).m) (K.put d 2).c (.agg d.cells) (.d (.int .u8 1)) (MM.idx (K.put d 2).m d)= .map (au Dt.cells kv ((K.put d 2).put d 1).m) ((K.put d 2).put d 1).c:=zz (K.put d 2).m (K.put d 2).c d 1;have cH:=Kq X hsm (K.put d 2) d hh (hT d) 17;rw[eT] at cH;unfold A8 at hvs;generalize K.put d 2=K2 at m2 m1 cH hvs;generalize K2.put d 1=K3 at m1 hvs;generalize oR (dz l) K2 d=H at cH hvs;dsimp only[vH,Ix.Ll,uf] at cH ⊢;refine SW.seq (SW.g0 ap Zm h3 ?_);refine SW.seq (SW.ai rfl (SW.skip (SW.seq (SW.block (SW.seq (SW.g0 ap Zm (Zq (jI hd) (ng hd)) ?_))))));refine SW.seq (SW.g0 ap Zm m2 ?_);refine SW.seq ?_
   by_cases hc:H.length>0
   .have c1:decide ((H.length:Int)>0)=true:=by simp only[decide_eq_true_eq];omega
    rw[if_pos hc] at hvs;refine SW.g1 ap Zm c1 cH ?_;refine SW.ai rfl ?_;refine SW.g0 ap Zm m1 ?_;refine SW.g0 ap Zm e4 ?_;refine⟨⟨i+1,by omega⟩,id,by show L.length - (i+1)<L.length - i;omega,?_⟩;dsimp only;rw[hvs];exact aG.same (Nat.zero_le _) (by simp[aJ,List.lookup,SV.aC,SV.ok,SV.ax,ic]) (ug _ _ (Nat.le_refl _)) (λ y hy=>by
     simp only[List.mem_cons,List.not_mem_nil,or_false] at hy;rcases hy with rfl|rfl|rfl|rfl|rfl<;>rfl)
   .have c1:decide ((H.length:Int)>0)=false:=by simp only[decide_eq_false_iff_not];omega
    rw[if_neg hc] at hvs;refine SW.g1 ap Zm c1 cH ?_;refine SW.an rfl (SW.skip ?_);refine SW.g0 ap Zm e4 ?_;refine⟨⟨i+1,by omega⟩,id,by show L.length - (i+1)<L.length - i;omega,?_⟩;dsimp only;rw[hvs];exact aG.same (Nat.zero_le _) (by simp[aJ,List.lookup,SV.aC,SV.ok,SV.ax,ic]) (ug _ _ (Nat.le_refl _)) (λ y hy=>by
     simp only[List.mem_cons,List.not_mem_nil,or_false] at hy;rcases hy with rfl|rfl|rfl|rfl|rfl<;>rfl)
  have h3:decide ((i:Int)<L.length)=false:=by simp only[decide_eq_false_iff_not];omega
  rw[List.take_of_length_le (show L.length<=i by omega),<- hft];refine SW.seq (SW.g0 ap Zm h3 ?_);refine SW.seq (SW.an rfl (SW.exit ?_));refine(?_:Sl.SW _ _ _ _ _ _);refine SW.g0 ap Zm e2 ?_;refine⟨⟨k+1,by omega⟩,id,by show R.length - (k+1)<R.length - k;omega,?_⟩;exact aG.same (Nat.zero_le _) (by simp[aJ,List.lookup,SV.aC,SV.ok,SV.ax,ic]) (ug _ _ (Nat.le_refl _)) (Im X _)
 have h3:decide ((k:Int)<R.length)=false:=by simp only[decide_eq_false_iff_not];omega
 rw[List.take_of_length_le (show R.length<=k by omega),<- hV];refine SW.seq (SW.g0 ap Zm h3 ?_);refine SW.seq (SW.an rfl (SW.exit ?_));refine(?_:Sl.SW _ _ _ _ _ _);refine SW.seq (SW.g0 ap Zm aa ?_);refine SW.ret ?_;exact End.mk (vH X (dQ l)) (h4:=⟨S,h,rfl,by rw[eX]⟩) (h6:=ug _ _ (Nat.le_refl _))
theorem M_ (l:List ag)(hl:l.length<=80)(hrow:lN l):SC Tryz.prog verdict_all.f [ops l] [] 0 16 λ r F=>∃ S,∃ h:dw l S,r= .dL [.mp 15,.ptr 14 0]/\F=vH h.X (dQ l):=
 (Iq l hl hrow).here (λ _=>false) (λ n h=>by cases h) rfl rfl λ r F _ h1 h2=>⟨SV.fD (λ n hn=>by simpa using hn) _ h1,Hp.eA (λ n hn=>by simpa using hn) h2⟩
set_option maxHeartbeats 4000000 in
theorem O1 (l:List ag)(hl:l.length<=80)(hrow:lN l):SB Tryz.prog verdict_Of.f [ops l] [] 0 1 λ r F=>r= .mp 0/\F=[(0,uf (dQ l))]:=by
 refine verdict_Of.enter (by first|rfl|simp[SV.ok,SV.ax]) (by first|rfl|simp[Hp.ok,Ob.ok,SV.ok,SV.ax,ay.ah]) (by simp) ?_;dsimp only[verdict_Of.s,Co.M,Co.J,Co.F,Co.E,Co.P,Co.S];refine SW.seq (SW.g0 [0,2,3] Zm aa ?_);refine SW.seq (SW.xU ?_);(repeat (first|refine bq.op aa (h:=?_)|refine bq.dV aa (h:=?_)|refine bq.skip (h:=?_)));refine bq.bC (M_ l hl hrow) (HSub.nil _) (h:=?_);rintro _ _ ⟨S,h,rfl,rfl⟩;simp only[bU,de,dg,gf,gJ,c_,lk,List.lookup,Nat.reduceBEq,BEq.rfl,beq_self_eq_true,if_true,if_false,reduceIte,Nat.reduceEqDiff,Bool.false_eq_true,Option.isSome_some,Option.isSome_none,Nat.reduceAdd];(repeat (first|refine bq.op aa (h:=?_)|refine bq.dV aa (h:=?_)|refine bq.skip (h:=?_)));refine bq.nil ?_;refine SW.weak (λ n=>if n=0 then 15 else n) (st1:=⟨[(3,.mp 0)],[(0,uf (dQ l))],1⟩) ?_ ?_
 .refine⟨Nat.zero_le _,λ n hn=>absurd hn (Nat.not_lt_zero n),?_,?_,?_⟩
  .simp[aJ,List.lookup,SV.aC,SV.ok]
  .simp[sV,af,Ob.aC,Ob.ok,fP,dH]
  .intro a ha b hb e
   simp only[List.map_cons,List.map_nil,List.mem_singleton] at ha hb;rw[ha,hb]
 refine SW.seq (SW.g0 [0,2,3] Zm aa ?_);refine SW.ret ?_;exact End.mk [(0,uf (dQ l))] (h4:=⟨rfl,rfl⟩) (h6:=aA (by simp) (dH _ _) rfl)
theorem Bb (l:List ag)(hl:l.length<=80)(hrow:lN l)(k:Nat):aH Tryz.prog verdict_Of.f [ops l] [] k 1 (.mp k) [(k,uf (dQ l))]:=by
 have:=SB.new (O1 l hl hrow) k
 simpa[SV.aC,eu,Hp.aC,Ob.aC,fP] using this
end
end Go.Proofs.YtaelhkkjgfobhaaGreat
namespace Go.Proofs.YtaelhkkjgfobhaaGreat
open Go.Sl Go.Proofs
section
attribute [local irreducible] SW RW aH SC aj ak
abbrev qt (l:List ag):List SV:=List.map SV.d (l.flatMap ag.ds)
end
section
section
variable {t l:List ag} {S U:Sh} (hP:Part t l) (hS:dw t S) (hU:dw l U)
include hP hS hU
end
end
section
theorem qn {l:List ag}(hu:j8 l){x:ag}(hx:x∈l):dD l x.dot=decide (jQ l x=0):=by
 unfold dD;rw[hu.find hx]
theorem yy {l:List ag}{st:ay}{d:Dt}:A5 l st d=[]↔∀ e,e∈qB l->Reach (dz l) d e->st.aU e=true:=by
 rw[List.eq_nil_iff_forall_not_mem];constructor
 .intro h e he hr
  cases hc:st.aU e with
  | true=>rfl
  | false=>exact absurd (yw.2 ⟨he,hr,hc⟩) (h e)
 .intro h e he
  obtain⟨h1,h2,h3⟩:=yw.1 he;rw[h e h1 h2] at h3;cases h3
section
variable {t l:List ag} (hP:Part t l)
include hP
theorem nq {x:ag}(hx:x∈t):dD t x.dot=dD l x.dot:=by
 rw[qn hP.AL hx,qn hP.uniq (hP.sub x hx),v_ hP hx]
theorem Bc {x:ag}(hx:x∈t)(hw:jQ l x=0):jt t x=jt l x:=by
 unfold jt
 by_cases hk:x.kind=0
 .rw[if_pos hk,if_pos hk]
 .rw[if_neg hk,if_neg hk]
  unfold jQ zi at hw;obtain⟨_,_,h3,_,_⟩:=v8.1 hw;rw[(hP.OF.B2 hx (h3 hk).1).2]
theorem Bd {st:ay}(wQ:∀ o,o∈l->o∈t\/o.dep.above st=true){x:ag}(hx:x∈t)(hc:st.aU x.dot=true)(v:Dt):v∈dz t x.dot↔v∈dz l x.dot:=by
 rw[nj,nj];constructor
 .rintro⟨h1,h2,h3⟩
  obtain⟨o,hf,hw,e1,hd⟩:=jS h2;have ho:=(fZ hf).1;have hgx:dD l x.dot=true:=by rw[<- nq hP hx];exact h1
  obtain⟨x',hf',hw',_,_⟩:=jS hgx;rw[hP.uniq.find (hP.sub x hx)] at hf';injection hf' with hf';subst hf';refine⟨hgx,by rw[<- hd,<- nq hP ho,hd];exact h2,?_⟩;unfold wF at h3 ⊢;rw[e1,bD (hP.AL.find hx)] at h3;rw[bD (hP.find hf),bD (hP.uniq.find (hP.sub x hx))];unfold zx at h3 ⊢;rw[<- Bc hP hx hw'];exact h3
 .rintro⟨h1,h2,h3⟩
  obtain⟨o,hf,hw,e1,hd⟩:=jS h2;have hol:=(fZ hf).1;obtain⟨x',hf',hw',_,_⟩:=jS h1;rw[hP.uniq.find (hP.sub x hx)] at hf';injection hf' with hf';subst hf';unfold wF zx at h3;rw[e1,bD (hP.uniq.find (hP.sub x hx))] at h3;simp only[Bool.and_eq_true,decide_eq_true_eq,Bool.not_eq_true'] at h3;obtain⟨k1,k2,k3⟩:=h3;have ho:o∈t:=by
   rcases wQ o hol with h|h
   .exact h
   .have:=ay.rS h _ hc
    unfold ag.before at k3;rw[this] at k3;cases k3
  have hft:=hP.AL.find ho;rw[hd] at hft;refine⟨by rw[nq hP hx];exact h1,by rw[<- hd,nq hP ho,hd];exact h2,?_⟩;unfold wF zx;rw[bD hft,bD (hP.AL.find hx),Bc hP hx hw'];simp only[Bool.and_eq_true,decide_eq_true_eq,Bool.not_eq_true'];exact⟨k1,k2,k3⟩
theorem Be {st:ay}(wQ:∀ o,o∈l->o∈t\/o.dep.above st=true):∀ (n:Nat) (d:Dt),ia t d<n->d∈qB t->A5 t st d=[]->Cs t d=Cs l d
 | 0,_,h,_,_=>absurd h (Nat.not_lt_zero _)
 | n +1,d,h,hd,hw=>by
  rw[Dt.mem_set,List.mem_map] at hd;obtain⟨x,hx,rfl⟩:=hd;have hds:x.dot∈qB t:=Dt.mem_set.2 (List.mem_map.2 ⟨x,hx,rfl⟩);have hc:=yy.1 hw _ hds (.refl _);rw[tK,tK,Bool.eq_iff_iff,List.all_eq_true,List.all_eq_true];have key:∀ v,v∈dz t x.dot->Cs t v=Cs l v:=λ v hv=>by
   have hlt:=qk hv;refine Be wQ n v (by omega) (A6 (wK hv)) (yy.2 λ e he hr=>yy.1 hw e he (.step hv hr))
  constructor
  .intro h2 v hv
   have hv':=(Bd hP wQ hx hc v).2 hv;rw[<- key v hv'];exact h2 v hv'
  .intro h2 v hv
   rw[key v hv];exact h2 v ((Bd hP wQ hx hc v).1 hv)
theorem tL {st:ay}(wQ:∀ o,o∈l->o∈t\/o.dep.above st=true){d:Dt}(hd:d∈qB t)(hw:A5 t st d=[]):jv t d=jv l d:=by
 have h1:=Be hP wQ _ d (Nat.lt_succ_self _) hd hw;rw[Dt.mem_set,List.mem_map] at hd;obtain⟨x,hx,rfl⟩:=hd;unfold jv;rw[h1,nq hP hx]
end
end
end Go.Proofs.YtaelhkkjgfobhaaGreat
