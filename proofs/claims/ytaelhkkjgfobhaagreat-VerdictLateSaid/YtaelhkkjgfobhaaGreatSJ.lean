/-
 A revoke that knows a whole history; what comes behind it (plain).
-/
import Derived.Test.YtaelhkkjgfobhaaGreatSE
set_option linter.unusedSectionVars false
set_option linter.unusedVariables false
set_option linter.unusedSimpArgs false
namespace Go.Proofs.YtaelhkkjgfobhaaGreat
open Go.Sl Go.Proofs
section
def oK (x:DV)(kn:ay)(t:Nat)(b a:ag):ag:=⟨⟨0,kn.get 0+1⟩,kn,t+1,if b.kind=1 then b.to else b.who,a.aK,2,b.dot,0,0,0,0,a.dot,⟨0,0⟩,0,0,0,x⟩
def yF (x:DV)(kn:ay)(t:Nat)(a:ag):ag:=⟨⟨0,kn.get 0+2⟩,kn.set 0 (kn.get 0+1),t+2,a.to,a.aK,3,a.dot,0,0,0,0,⟨0,0⟩,⟨0,0⟩,0,1,0,x⟩
theorem ID {n:Int}{l:List ag}(h:o8 n l){o:ag}(ho:o∈l):o.dot.n<=l.length:=by
 have h8:=h.Ap ho;have hin:∀ m,m<o.dot.n->(⟨o.dot.r,m+1⟩:Dt)∈l.map (·.dot):=λ m hm=>by
  by_cases he:m+1=o.dot.n
  .exact List.mem_map.2 ⟨o,ho,by rw[he]⟩
  .obtain⟨a,ha,e⟩:=h.there ho (d:=⟨o.dot.r,m+1⟩) (by
    have:=(h.form o ho).own;simp only[ay.aU,Dt.may,Bool.and_eq_true,decide_eq_true_eq];exact⟨⟨h8.1,by omega⟩,by omega⟩)
   exact List.mem_map.2 ⟨a,ha,e⟩
 have oM:((List.range o.dot.n).map λ m=>(⟨o.dot.r,m+1⟩:Dt)).Nodup:=by
  rw[List.nodup_iff_pairwise_ne,List.pairwise_map];refine List.Pairwise.imp (λ {a b} hab e=>hab ?_) List.nodup_range;injection e with _ e;omega
 have:=oM.length_le_of_subset (l₂:=l.map (·.dot)) λ d hd=>by
  obtain⟨m,hm,rfl⟩:=List.mem_map.1 hd;exact hin m (List.mem_range.1 hm)
 simpa using this
theorem KN {n:Int}{l:List ag}(h:o8 n l){r:Nat}(hr:r<8):(bu l).get r<=l.length:=by
 rcases p0 l hr with h0|⟨o,ho,e⟩
 .omega
 .have:=ID h ho
  rw[e] at this;exact this
theorem wS {n:Int}{l:List ag}(h:o8 n l){d:Dt}(hd:d∈qB l):(bu l).aU d=true:=by
 rw[Dt.mem_set,List.mem_map] at hd;obtain⟨x,hx,rfl⟩:=hd;have h8:=h.Ap hx;unfold ay.aU;rw[h.may hx,decide_eq_true (pZ hx h8.1)];rfl
theorem IE {v:ay}{d:Dt}(h:v.get d.r<d.n):v.aU d=false:=by
 cases hc:v.aU d with
 | false=>rfl
 | true=>
  simp only[ay.aU,Bool.and_eq_true,decide_eq_true_eq] at hc;omega
theorem Part.snoc {l:List ag}{x:ag}(hu:j8 l)(hx:∀ o,o∈l->o.dot≠x.dot)(hb:∀ o,o∈l->x.before o=false):Part l (l++[x]):=by
 refine⟨?_,hu,λ o ho=>List.mem_append_left _ ho,λ o a ho ha h=> ?_⟩
 .unfold j8
  rw[List.map_append,List.nodup_append];refine⟨hu,by simp,λ a ha b hb e=> ?_⟩;obtain⟨o,ho,rfl⟩:=List.mem_map.1 ha;simp only[List.map_cons,List.map_nil,List.mem_singleton] at hb;exact hx o ho (e.trans hb)
 .rcases List.mem_append.1 ha with ha|ha
  .exact ha
  .rw[List.mem_singleton.1 ha,hb o ho] at h;cases h
section
variable {n:Int} {l:List ag} (hH:o8 n l)
include hH
theorem zF {m:Nat}(hm:(bu l).get 0<m){o:ag}(ho:o∈l):o.dot≠(⟨0,m⟩:Dt):=λ e=>by
 have h8:=hH.Ap ho;have:=pZ ho h8.1;have e1:o.dot.r=0:=by rw[e]
 have e2:o.dot.n=m:=by rw[e]
 rw[e1] at this;omega
theorem DJ {m:Nat}(hm:(bu l).get 0<m){x:ag}(hx:x.dot=⟨0,m⟩){o:ag}(ho:o∈l):x.before o=false:=by
 unfold ag.before;cases hc:o.dep.aU x.dot with
 | false=>rfl
 | true=>
  obtain⟨a,ha,e⟩:=hH.there ho hc;exact absurd (e.trans hx) (zF hH hm ha)
theorem yG (x:DV)(t:Nat)(b a:ag):Part l (l++[oK x (bu l) t b a]):=
 Part.snoc hH.uniq (λ o ho=>zF hH (Nat.lt_succ_self _) ho) λ o ho=>DJ hH (Nat.lt_succ_self _) rfl ho
theorem EV (x:DV)(t:Nat)(b a:ag){d:Dt}(hd:d∈qB l):jv l d=jv (l++[oK x (bu l) t b a]) d:=by
 refine tL (yG hH x t b a) (st:=bu l) (λ o ho=> ?_) hd (yy.2 λ e he _=>wS hH he);rcases List.mem_append.1 ho with ho|ho
 .exact .inl ho
 .rw[List.mem_singleton.1 ho]
  exact .inr (ay.ir.2 λ r _=>Nat.le_refl _)
theorem Cx (x z:DV)(t:Nat)(b a:ag):Part (l++[oK x (bu l) t b a]) (l++[oK x (bu l) t b a]++[yF z (bu l) t a]):=by
 refine Part.snoc (yG hH x t b a).uniq (λ o ho=> ?_) λ o ho=> ?_
 .rcases List.mem_append.1 ho with ho|ho
  .exact zF hH (Nat.lt_succ_of_lt (Nat.lt_succ_self _)) ho
  .rw[List.mem_singleton.1 ho]
   intro e;have:(bu l).get 0+1=(bu l).get 0+2:=congrArg Dt.n e;omega
 .rcases List.mem_append.1 ho with ho|ho
  .exact DJ hH (Nat.lt_succ_of_lt (Nat.lt_succ_self _)) rfl ho
  .rw[List.mem_singleton.1 ho]
   exact IE (Nat.lt_succ_of_lt (Nat.lt_succ_self _))
theorem IF (x z:DV)(t:Nat)(b a:ag)(hr:jv (l++[oK x (bu l) t b a]) (oK x (bu l) t b a).dot=2):jv (l++[oK x (bu l) t b a]++[yF z (bu l) t a]) (yF z (bu l) t a).dot≠2:=by
 intro ho;have hP:=Cx hH x z t b a;obtain⟨r,er⟩:∃ r,oK x (bu l) t b a=r:=⟨_,rfl⟩;obtain⟨o,eo⟩:∃ o,yF z (bu l) t a=o:=⟨_,rfl⟩;have r1:r.dot=⟨0,(bu l).get 0+1⟩:=by rw[<- er];rfl
 have r2:r.kind=2:=by rw[<- er];rfl
 have r3:r.at_=a.dot:=by rw[<- er];rfl
 have r4:r.dep=bu l:=by rw[<- er];rfl
 have o1:o.dot=⟨0,(bu l).get 0+2⟩:=by rw[<- eo];rfl
 have o2:o.kind=3:=by rw[<- eo];rfl
 have o3:o.aP=a.dot:=by rw[<- eo];rfl
 have o4:o.dep=(bu l).set 0 ((bu l).get 0+1):=by rw[<- eo];rfl
 rw[er,eo] at hP;rw[er] at hr ho;rw[eo] at ho;clear er eo;have g0:o.dep.get 0=(bu l).get 0+1:=by rw[o4,ay.pV _ _ _ (by decide)];rfl
 have gi:∀ i,i<8->(bu l).get i<=o.dep.get i:=λ i hi=>by
  rw[o4,ay.pV _ _ _ hi]
  by_cases h:i=0
  .rw[if_pos h,h];omega
  .rw[if_neg h];exact Nat.le_refl _
 have hrd:r.dot∈qB (l++[r]):=Dt.mem_set.2 (List.mem_map.2 ⟨r,by simp,rfl⟩);have hcov:∀ e,e∈qB (l++[r])->o.dep.aU e=true:=λ e he=>by
  rw[Dt.mem_set,List.mem_map] at he;obtain⟨x,hx,rfl⟩:=he;rcases List.mem_append.1 hx with hx|hx
  .exact ay.rS (ay.ir.2 gi) _ (wS hH (Dt.mem_set.2 (List.mem_map.2 ⟨x,hx,rfl⟩)))
  .rw[List.mem_singleton.1 hx,r1]
   simp only[ay.aU,Dt.may,Bool.and_eq_true,decide_eq_true_eq];exact⟨⟨by omega,by omega⟩,by omega⟩
 have hs:=tL hP (st:=o.dep) (λ x hx=>by
  rcases List.mem_append.1 hx with hx|hx
  .exact .inl hx
  .rw[List.mem_singleton.1 hx]
   exact .inr (ay.ir.2 λ _ _=>Nat.le_refl _)) hrd (yy.2 λ e he _=>hcov e he)
 rw[hr] at hs;obtain⟨L,hL⟩:∃ L,l++[r]++[o]=L:=⟨_,rfl⟩;have hrL:r∈L:=by rw[<- hL];simp
 have hoL:o∈L:=by rw[<- hL];simp
 rw[hL] at hs ho hP;have two:∀ d,jv L d=2->dD L d=true/\Cs L d=true:=λ d h=>by
  unfold jv at h;cases hg:dD L d<;>cases hv:Cs L d<;>rw[hg] at h<;>simp[hv] at h ⊢
 obtain⟨gr,vr⟩:=two _ hs.symm;obtain⟨go,vo⟩:=two _ ho;have fr:=bD (hP.uniq.find hrL);have fo:=bD (hP.uniq.find hoL);have hwo:jQ L o=0:=by rw[qn hP.uniq hoL] at go;exact of_decide_eq_true go
 obtain⟨c,hc,_⟩:=qU hwo (by omega);obtain⟨M,hM,_⟩:=(eW L).ux o.aP;have hin:a.dot∈jt L o:=by
  unfold jt;rw[if_neg (by omega),gI hM];have hM':=hM;rw[hc] at hM';have h0:=List.mem_of_getElem? hM'.head;exact List.mem_map.2 ⟨c,h0,by rw[((eW L).HH hc hM h0).2.1 rfl,o3]⟩
 have ht:r.dot∈dz L o.dot:=nj.2 ⟨go,gr,by
  unfold wF zx;rw[fr,fo];simp only[Bool.and_eq_true,decide_eq_true_eq,Bool.not_eq_true'];refine⟨r2,by rw[r3];exact hin,?_⟩;unfold ag.before;rw[r4,o1];exact IE (Nat.lt_succ_of_lt (Nat.lt_succ_self _))⟩
 rw[tK,List.all_eq_true] at vo;have:=vo _ ht;rw[vr] at this;cases this
end
end
section
attribute [local irreducible] SW RW aH SC aj ak
theorem Nf {l:List ag}{i:Nat}{x:ag}(h:l[i]? =some x):(List.map SV.d (l.flatMap ag.ds))[i*29]? =some (u8 x.dot.r):=by
 have:=vB h (j:=0) (by omega);rw[Nat.add_zero] at this;rw[this];rfl
theorem Ng {l:List ag}{i:Nat}{x:ag}(h:l[i]? =some x):(List.map SV.d (l.flatMap ag.ds))[i*29+1]? =some (u32 x.dot.n):=by rw[vB h (by omega)];rfl
set_option maxHeartbeats 2000000 in
theorem Cy (l:List ag)(hl:l.length<=9223372036854775807):Go.Sl.Pure Tryz.prog ref10_Known.f [ops l] (.agg (bu l).cells):=by
 refine ref10_Known.enter (by first|rfl|simp[SV.ok,SV.ax]) (by first|rfl|simp[Hp.ok,Ob.ok,SV.ok,SV.ax,ay.ah]) (by simp) ?_;dsimp only[ref10_Known.s,Co.M,Co.G,Co.J,Co.H,Co.F,Co.Z,Co.b8,Co.z8,Co.T,Co.K,Co.L,Co.W,Co.Y,Co.V,Co.U,Co.D,Co.I,Co.S];refine SW.seq (SW.g0 fw Zm aa ?_);refine SW.seq (SW.g0 fw Zm aa ?_);refine SW.seq (SW.seq (SW.g0 fw Zm aa ?_));refine SW.block (SW.j6 (α:={i:Nat // i<=l.length}) (λ i=>⟨[(4,i64 i.1),(0,ops l),(2,.ptr 0 0),(3,.ptr 1 0)],[(1,.box 39 (bu (l.take i.1)).cells),(0,.box 39 ay.zero.cells)],2⟩) (λ i=>l.length - i.1) ⟨0,by omega⟩ id (Zq (show bu []=ay.zero from rfl) aa) (round:= ?_));rintro⟨i,hi⟩;dsimp only
 by_cases h:i<l.length
 .have h1:decide ((i:Int)<l.length)=true:=by simp only[decide_eq_true_eq];omega
  obtain⟨x,hx⟩:=aX h;have e2:IntKind.i64.wrap ((i:Int)+1)=((i+1:Nat):Int):=wrap_i64 _ (by omega);have e1:l.take (i+1)=l.take i++[x]:=dY hx;have hsn:=tZ (l.take i) x;rw[<- e1] at hsn;unfold eU at hsn;generalize bu (l.take i)=v at hsn ⊢
  by_cases hr:x.dot.r<8
  .have e4:decide ((x.dot.r:Int)<8)=true:=by simp;omega
   rw[if_pos hr] at hsn
   by_cases hv:v.get x.dot.r<x.dot.n
   .have e5:decide ((x.dot.n:Int)>((v.get x.dot.r:Nat):Int))=true:=by simp;omega
    rw[Nat.max_eq_right (by omega)] at hsn;have e6:b_ v.cells x.dot.r [.d (.int .u32 (x.dot.n:Int))]=(v.set x.dot.r x.dot.n).cells:=by rw[CU];exact ay.xO v hr _
    (repeat (first|refine SW.seq ?_|refine SW.block ?_|refine SW.g0 fw Zm (Zq h1 (Zq (Nf hx) (Zq (Ng hx) (Zq e2 (Zq e4 (Zq (ay.eE v hr) (Zq e5 e6))))))) ?_|refine SW.skip ?_|refine SW.exit ?_|refine SW.ret ?_|refine SW.ai rfl ?_|refine SW.an rfl ?_));dsimp only;exact⟨⟨i+1,by omega⟩,id,by show l.length - (i+1)<_;omega,aG.mk (Zq hsn aa)⟩
   .have e5:decide ((x.dot.n:Int)>((v.get x.dot.r:Nat):Int))=false:=by simp;omega
    rw[Nat.max_eq_left (by omega)] at hsn;have e7:v.set x.dot.r (v.get x.dot.r)=v:=ay.ext' λ q hq=>by rw[ay.pV _ _ _ hq];split<;>simp_all
    rw[e7] at hsn;(repeat (first|refine SW.seq ?_|refine SW.block ?_|refine SW.g0 fw Zm (Zq h1 (Zq (Nf hx) (Zq (Ng hx) (Zq e2 (Zq e4 (Zq (ay.eE v hr) (e5))))))) ?_|refine SW.skip ?_|refine SW.exit ?_|refine SW.ret ?_|refine SW.ai rfl ?_|refine SW.an rfl ?_));dsimp only;exact⟨⟨i+1,by omega⟩,id,by show l.length - (i+1)<_;omega,aG.mk (Zq hsn aa)⟩
  .have e4:decide ((x.dot.r:Int)<8)=false:=by simp;omega
   rw[if_neg hr] at hsn;(repeat (first|refine SW.seq ?_|refine SW.block ?_|refine SW.g0 fw Zm (Zq h1 (Zq (Nf hx) (Zq (Ng hx) (Zq e2 e4)))) ?_|refine SW.skip ?_|refine SW.exit ?_|refine SW.ret ?_|refine SW.ai rfl ?_|refine SW.an rfl ?_));dsimp only;exact⟨⟨i+1,by omega⟩,id,by show l.length - (i+1)<_;omega,aG.mk (Zq hsn aa)⟩
 .have h1:decide ((i:Int)<l.length)=false:=by simp only[decide_eq_false_iff_not];omega
  have h2:i=l.length:=by omega
  subst h2;rw[List.take_length];(repeat (first|refine SW.seq ?_|refine SW.block ?_|refine SW.g0 fw Zm h1 ?_|refine SW.skip ?_|refine SW.exit ?_|refine SW.ret ?_|refine SW.ai rfl ?_|refine SW.an rfl ?_));exact End.mk [] (h4:=⟨rfl,rfl⟩)
theorem wT (l:List ag)(hl:l.length<=9223372036854775807)(k:Nat):aH Tryz.prog ref10_Known.f [ops l] [] k 0 (.agg (bu l).cells) []:=(Cy l hl).sc rfl k
theorem LF (l:List ag)(hl:l.length<=80)(hrow:lN (l.map ag.nz))(k:Nat):aH Tryz.prog verdict_Of.f [ops l] [] k 1 (.mp k) [(k,uf (dQ (l.map ag.nz)))]:=by
 have h0:=Bb (l.map ag.nz) (by rw[List.length_map];exact hl) hrow k;unfold aH at h0 ⊢;refine SC.args (λ p μ M vs hv=> ?_) h0;have:=C5 (r:=[]) (r':=[]) (λ _ h=>h) vs hv;rw[<- BM] at this
 simpa[ops] using this
theorem IG:∀ {l:List ag},(∀ o,o∈l->o.mC)->l.map ag.nz=l
 | [],_=>rfl
 | o ::l,h=>by
  have h1:o.nz=o:=by
   obtain⟨dot,dep,time,who,aK,kind,aP,to,bn,depth,cap,at_,jA,item,uu,ff,lines⟩:=o;have:=(h _ (List.mem_cons_self ..)).eq;dsimp only at this;rw[this];rfl
  rw[List.map_cons,h1,IG λ x hx=>h x (List.mem_cons_of_mem _ hx)]
end
end Go.Proofs.YtaelhkkjgfobhaaGreat
