/-
 Draws only grow.
-/
import Derived.WalkKit
import Derived.Orders
import Derived.KernelRfl
import Derived.OrdersIn
set_option linter.unusedSimpArgs false
set_option linter.unusedVariables false
set_option linter.unusedSectionVars false
namespace Go.Sl
section
theorem s_ {P:Program}{w:World}{at_:Addr}{u:TypeId}{k:Addr}{v:Value}{b:Bool}{r:World×List Addr}(h:w.viewStore P at_ u k v b= .ok r):r.1.drawn=w.drawn:=by
 unfold World.viewStore at h;simp only [bind,Except.bind,pure,Except.pure,throw,throwThe,MonadExceptOf.throw] at h
 repeat' split at h
 all_goals first
  | (cases h;done)
  | (injection h with h;subst h;rfl)
theorem tS {P:Program}{w:World}{a:Addr}{v:Value}{b:Bool}{r:World×List Addr}(h:w.farStore P a v b= .ok r):r.1.drawn=w.drawn:=by
 unfold World.farStore at h
 split at h
 ·split at h
  ·rename_i hr
   injection h with h;subst h;exact s_ hr
  ·cases h
 ·cases h
theorem rW {α:Type}:∀ (a:Ask α) (w:World),w.drawn≤(w.ask a).2.drawn
 | .done a,w=>by simp [World.ask]
 | .ask what range k,w=>by
  simp only [World.ask]
  split
  ·exact rW _ w
  ·exact Nat.le_trans (Nat.le_succ _) (rW _ { w with drawn:=w.drawn+1})
theorem Ca (w:World)(c:Sys):w.drawn≤(w.sys c).2.drawn:=by
 unfold World.sys;have:=rW (Kernel.perform c w.os) w
 split
 ·exact Nat.le_refl _
 ·rename_i h
  rw [h] at this;exact this
theorem Cb {P:Program}{α:Type}(s:Sem α):∀ (w:World) (v:α) (w':World),s.run P w= .ok v w'→w.drawn≤w'.drawn:=by
 induction s with
 | pure a=>intro w v w' h;simp only [Sem.run] at h;injection h with _ h;subst h;exact Nat.le_refl _
 | load m a k ih=>
  intro w v w' h;simp only [Sem.run] at h
  split at h
  ·exact ih _ _ _ _ h
  ·split at h
   ·exact ih _ _ _ _ h
   ·cases h
 | store m a x k ih=>
  intro w v w' h;have fin:(match w.cell? a with
    | some _=>if w.frozen? a then Result.halt (.unsupported (.unsafePointer "a write to bytes that a string shares")) w else k.run P (w.setCell a x)
    | none=>match w.farStore P a x (m == Mode.atomic) with
     | .ok (w,_)=>k.run P w
     | .error h=> .halt h w)= .ok v w'→w.drawn≤w'.drawn:=by
   intro h
   split at h
   ·split at h
    ·cases h
    ·exact ih (w.setCell a x) v w' h
   ·split at h
    ·rename_i w2 l hf
     have:=tS hf;have h2:=ih w2 v w' h;simp only at this;omega
    ·cases h
  cases x <;> first
   | (simp only [Sem.run] at h;exact fin h)
   | (simp only [Sem.run] at h;cases h;done)
 | new o k ih=>intro w v w' h;simp only [Sem.run] at h;exact ih _ { w with heap:=w.heap.push o} v w' h
 | shape r k ih=>intro w v w' h;simp only [Sem.run] at h;exact ih _ _ _ _ h
 | freeze a n k ih=>
  intro w v w' h;simp only [Sem.run] at h;have:=ih _ _ _ h;have e:(w.freeze a n).drawn=w.drawn:=by unfold World.freeze;split <;> rfl
  rwa [e] at this
 | frozen a k ih=>intro w v w' h;simp only [Sem.run] at h;exact ih _ _ _ _ h
 | getObj r k ih=>
  intro w v w' h;simp only [Sem.run] at h
  split at h
  ·cases h
  ·exact ih _ _ _ _ h
  ·cases h
 | setObj r o k ih=>
  intro w v w' h;simp only [Sem.run] at h
  split at h
  ·cases h
  ·exact ih { w with heap:=w.heap.setIfInBounds r o} v w' h
  ·cases h
 | choose q k ih=>
  intro w v w' h;simp only [Sem.run] at h
  split at h
  ·exact ih _ _ _ _ h
  ·exact Nat.le_trans (Nat.le_succ _) (ih _ _ _ _ h)
 | sys c k ih=>
  intro w v w' h;simp only [Sem.run] at h;exact Nat.le_trans (Ca w c) (ih _ _ _ _ h)
 | program k ih=>intro w v w' h;simp only [Sem.run] at h;exact ih _ _ _ _ h
 | mark m k ih=>intro w v w' h;simp only [Sem.run] at h;exact ih _ _ _ h
 | halt h'=>intro w v w' h;simp only [Sem.run] at h;cases h
end
section
def ym:List (Nat×List (IntKind×Int)):=[]
end
section
inductive DV where
 | int (k:IntKind) (n:Int)
 | bool (b:Bool)
 | j0 | jj | gL | aJ
 | sl (n:Nat) (cs:List DV)
 | str (s:List Nat)
 deriving Inhabited
abbrev Mem:=Nat→Nat→Option Value
mutual
def bX (M:Mem):DV→Value→Prop
 | .int k n,v=>v= .int k n
 | .bool b,v=>v= .bool b
 | .j0,v=>v= .pointer none
 | .jj,v=>v= .map none
 | .gL,v=>v= .nilFunc
 | .aJ,v=>v= .slice none 0 0
 | .str s,v=>∃ b:ByteArray,v= .string b∧b.data.toList.map UInt8.toNat=s
 | .sl n cs,v=>∃ A c,v= .slice A n c∧n≤c∧(n=0→cs=[])∧(0<n→∃ b o,A=some ⟨b,o,none⟩∧dB M b o cs)
def dB (M:Mem)(b:Nat):Nat→List DV→Prop
 | _,[]=>True
 | o,c::cs=>(∃ u,M b o=some u∧bX M c u)∧dB M b (o+1) cs
end
inductive SV where
 | d (x:DV)
 | ptr (n off:Nat)
 | gs (n len:Nat)
 | bs (n off len:Nat)
 | vp (cs:List DV) (i:Nat)
 | mp (n:Nat)
 | it (n:Nat)
 | yl (n:Nat)
 | fn (f:Fn) (first cap:List SV)
 | agg (cs:List SV)
 | dm (cs:List SV)
 | any
 deriving Inhabited
structure Nm where
 blk:Nat
 cap:Nat
 live:Bool:=true
mutual
def dy (μ:Nat→Nm)(M:Mem):SV→Value→Prop
 | .d x,v=>bX M x v
 | .ptr n off,v=>v= .pointer (some ⟨(μ n).blk,off,none⟩)
 | .gs n len,v=>((μ n).live=true∧v= .slice (some ⟨(μ n).blk,0,none⟩) len (μ n).cap)∨((μ n).live=false∧len=0∧∃ A,v= .slice A 0 0)
 | .vp cs i,v=>∃ b o,v= .pointer (some ⟨b,o+i,none⟩)∧dB M b o cs
 | .bs n off len,v=>∃ A c,v= .slice (some A) len c∧len≤c∧(len≠0→A=⟨(μ n).blk,off,none⟩)
 | .mp n,v=>((μ n).live=true∧v= .map (some (μ n).blk))∨((μ n).live=false∧v= .map none)
 | .it n,v=>v= .pointer (some ⟨(μ n).blk,0,none⟩)
 | .yl n,v=>v= .func (.yield (μ n).blk) #[] #[]
 | .fn f a c,v=>∃ as cs,v= .func f as cs∧cR μ M a as.toList∧cR μ M c cs.toList
 | .agg cs,v=>∃ vs,v= .agg vs∧cR μ M cs vs.toList
 | .dm cs,v=>∃ vs,v= .tuple vs∧cR μ M cs vs.toList
 | .any,_=>True
def cR (μ:Nat→Nm)(M:Mem):List SV→List Value→Prop
 | [],vs=>vs=[]
 | c::cs,vs=>∃ u us,vs=u::us∧dy μ M c u∧cR μ M cs us
end
def Mem.le (M M':Mem):Prop:=∀ b o v,M b o=some v→M' b o=some v
theorem Mem.le_refl (M:Mem):Mem.le M M:=fun _ _ _ h=>h
theorem Mem.le_trans {A B C:Mem}(h:Mem.le A B)(k:Mem.le B C):Mem.le A C:=fun b o v x=>k b o v (h b o v x)
mutual
theorem bX.mono {M M':Mem}(h:Mem.le M M'):∀ (x:DV) (v:Value),bX M x v→bX M' x v
 | .int k n,v,hr=>by simpa [bX] using hr
 | .bool b,v,hr=>by simpa [bX] using hr
 | .j0,v,hr=>by simpa [bX] using hr
 | .jj,v,hr=>by simpa [bX] using hr
 | .gL,v,hr=>by simpa [bX] using hr
 | .aJ,v,hr=>by simpa [bX] using hr
 | .str s,v,hr=>by simpa [bX] using hr
 | .sl n cs,v,hr=>by
  simp only [bX] at hr ⊢;obtain ⟨A,c,h1,h2,h3,h4⟩:=hr;exact ⟨A,c,h1,h2,h3,fun hn=>let ⟨b,o,e,r⟩:=h4 hn;⟨b,o,e,dB.mono h b o cs r⟩⟩
theorem dB.mono {M M':Mem}(h:Mem.le M M')(b:Nat):∀ (o:Nat) (cs:List DV),dB M b o cs→dB M' b o cs
 | _,[],_=>by simp [dB]
 | o,c::cs,hr=>by
  simp only [dB] at hr ⊢;obtain ⟨⟨u,hu,hc⟩,hs⟩:=hr;exact ⟨⟨u,h b o u hu,bX.mono h c u hc⟩,dB.mono h b (o+1) cs hs⟩
end
mutual
theorem dy.mono {μ:Nat→Nm}{M M':Mem}(h:Mem.le M M'):∀ (x:SV) (v:Value),dy μ M x v→dy μ M' x v
 | .d x,v,hr=>by simp only [dy] at hr ⊢;exact bX.mono h x v hr
 | .ptr n off,v,hr=>by simpa [dy] using hr
 | .gs n len,v,hr=>by simpa [dy] using hr
 | .vp cs i,v,hr=>by
  simp only [dy] at hr ⊢;obtain ⟨b,o,e,r⟩:=hr;exact ⟨b,o,e,dB.mono h b o cs r⟩
 | .bs _ _ _,v,hr=>by simpa [dy] using hr
 | .mp n,v,hr=>by simpa [dy] using hr
 | .it n,v,hr=>by simpa [dy] using hr
 | .yl n,v,hr=>by simpa [dy] using hr
 | .fn f a c,v,hr=>by
  simp only [dy] at hr ⊢;obtain ⟨as,cs,e,h1,h2⟩:=hr;exact ⟨as,cs,e,cR.mono h a _ h1,cR.mono h c _ h2⟩
 | .agg cs,v,hr=>by
  simp only [dy] at hr ⊢;obtain ⟨vs,e,h1⟩:=hr;exact ⟨vs,e,cR.mono h cs _ h1⟩
 | .dm cs,v,hr=>by
  simp only [dy] at hr ⊢;obtain ⟨vs,e,h1⟩:=hr;exact ⟨vs,e,cR.mono h cs _ h1⟩
 | .any,_,_=>by simp [dy]
theorem cR.mono {μ:Nat→Nm}{M M':Mem}(h:Mem.le M M'):∀ (xs:List SV) (vs:List Value),cR μ M xs vs→cR μ M' xs vs
 | [],vs,hr=>by simpa [cR] using hr
 | x::xs,vs,hr=>by
  simp only [cR] at hr ⊢;obtain ⟨u,us,e,h1,h2⟩:=hr;exact ⟨u,us,e,dy.mono h x u h1,cR.mono h xs us h2⟩
end
def Rp (p:Nat→Prop)(μ:Nat→Nm)(M:Mem)(s:SV)(v:Value):Prop:=∀ a_:Nat→Nm,(∀ n,p n→a_ n=μ n)→dy a_ M s v
def aU (p:Nat→Prop)(μ:Nat→Nm)(M:Mem)(s:List SV)(v:List Value):Prop:=∀ a_:Nat→Nm,(∀ n,p n→a_ n=μ n)→cR a_ M s v
theorem Rp.rep {p:Nat→Prop}{μ:Nat→Nm}{M:Mem}{s:SV}{v:Value}(h:Rp p μ M s v):dy μ M s v:=h μ fun _ _=>rfl
theorem aU.vt {p:Nat→Prop}{μ:Nat→Nm}{M:Mem}{s:List SV}{v:List Value}(h:aU p μ M s v):cR μ M s v:=h μ fun _ _=>rfl
theorem Rp.more {p p':Nat→Prop}{μ a_:Nat→Nm}{M M':Mem}{s:SV}{v:Value}(h:Rp p μ M s v)(hp:∀ n,p n→p' n)(kf:∀ n,p n→a_ n=μ n)(hM:Mem.le M M'):Rp p' a_ M' s v:=
 fun ν ic=>dy.mono hM s v (h ν fun n hn=>(ic n (hp n hn)).trans (kf n hn))
theorem aU.more {p p':Nat→Prop}{μ a_:Nat→Nm}{M M':Mem}{s:List SV}{v:List Value}(h:aU p μ M s v)(hp:∀ n,p n→p' n)(kf:∀ n,p n→a_ n=μ n)(hM:Mem.le M M'):aU p' a_ M' s v:=
 fun ν ic=>cR.mono hM s v (h ν fun n hn=>(ic n (hp n hn)).trans (kf n hn))
section
variable {p:Nat→Prop} {μ:Nat→Nm} {M:Mem}
theorem Rp.cU {x:DV}{v:Value}:Rp p μ M (.d x) v↔bX M x v:=⟨fun h=>by simpa [dy] using h.rep,fun h a_ _=>by simpa [dy] using h⟩
theorem Rp.aL {k:IntKind}{n:Int}{v:Value}:Rp p μ M (.d (.int k n)) v↔v= .int k n:=by rw [Rp.cU,bX]
theorem Rp.bG {b:Bool}{v:Value}:Rp p μ M (.d (.bool b)) v↔v= .bool b:=by rw [Rp.cU,bX]
theorem Rp.any {v:Value}:Rp p μ M .any v:=fun _ _=>by simp [dy]
theorem aU.aR {vs:List Value}:aU p μ M [] vs↔vs=[]:=⟨fun h=>by simpa [cR] using h.vt,fun h _ _=>by simpa [cR] using h⟩
theorem aU.aD {c:SV}{cs:List SV}{vs:List Value}:aU p μ M (c::cs) vs↔∃ u us,vs=u::us∧Rp p μ M c u∧aU p μ M cs us:=by
 constructor
 ·intro h
  obtain ⟨u,us,rfl,_,_⟩:=(by simpa [cR] using h.vt:∃ u us,vs=u::us∧dy μ M c u∧cR μ M cs us);refine ⟨u,us,rfl,fun a_ kf=> ?_,fun a_ kf=> ?_⟩
  ·obtain ⟨u',us',e,a,_⟩:=(by simpa only [cR] using h a_ kf:∃ u' us',u::us=u'::us'∧dy a_ M c u'∧cR a_ M cs us')
   cases e;exact a
  ·obtain ⟨u',us',e,_,a⟩:=(by simpa only [cR] using h a_ kf:∃ u' us',u::us=u'::us'∧dy a_ M c u'∧cR a_ M cs us')
   cases e;exact a
 ·rintro ⟨u,us,rfl,h1,h2⟩ a_ kf
  simp only [cR];exact ⟨u,us,rfl,h1 a_ kf,h2 a_ kf⟩
theorem Rp.eT {cs:List SV}{v:Value}:Rp p μ M (.agg cs) v↔∃ vs,v= .agg vs∧aU p μ M cs vs.toList:=by
 constructor
 ·intro h
  obtain ⟨vs,rfl,_⟩:=(by simpa [dy] using h.rep:∃ vs,v= .agg vs∧cR μ M cs vs.toList);exact ⟨vs,rfl,fun a_ kf=>by have:=h a_ kf;simpa [dy] using this⟩
 ·rintro ⟨vs,rfl,h1⟩ a_ kf
  simp only [dy];exact ⟨vs,rfl,h1 a_ kf⟩
theorem Rp.dX {cs:List SV}{v:Value}:Rp p μ M (.dm cs) v↔∃ vs,v= .tuple vs∧aU p μ M cs vs.toList:=by
 constructor
 ·intro h
  obtain ⟨vs,rfl,_⟩:=(by simpa [dy] using h.rep:∃ vs,v= .tuple vs∧cR μ M cs vs.toList);exact ⟨vs,rfl,fun a_ kf=>by have:=h a_ kf;simpa [dy] using this⟩
 ·rintro ⟨vs,rfl,h1⟩ a_ kf
  simp only [dy];exact ⟨vs,rfl,h1 a_ kf⟩
theorem Rp.rX {f:Fn}{a c:List SV}{v:Value}:Rp p μ M (.fn f a c) v↔∃ as cs,v= .func f as cs∧aU p μ M a as.toList∧aU p μ M c cs.toList:=by
 constructor
 ·intro h
  obtain ⟨as,cs,rfl,_⟩:=(by simpa [dy] using h.rep:∃ as cs,v= .func f as cs∧cR μ M a as.toList∧cR μ M c cs.toList);refine ⟨as,cs,rfl,fun a_ kf=> ?_,fun a_ kf=> ?_⟩
  ·obtain ⟨as',cs',e,a',_⟩:=(by simpa only [dy] using h a_ kf:∃ as' cs',Value.func f as cs=Value.func f as' cs'∧cR a_ M a as'.toList∧cR a_ M c cs'.toList)
   cases e;exact a'
  ·obtain ⟨as',cs',e,_,a'⟩:=(by simpa only [dy] using h a_ kf:∃ as' cs',Value.func f as cs=Value.func f as' cs'∧cR a_ M a as'.toList∧cR a_ M c cs'.toList)
   cases e;exact a'
 ·rintro ⟨as,cs,rfl,h1,h2⟩ a_ kf
  simp only [dy];exact ⟨as,cs,rfl,h1 a_ kf,h2 a_ kf⟩
theorem aU.length {cs:List SV}:∀ {vs:List Value},aU p μ M cs vs→vs.length=cs.length:=by
 induction cs with
 | nil=>intro vs h;rw [aU.aR.1 h];rfl
 | cons c cs ih=>
  intro vs h;obtain ⟨u,us,rfl,_,h2⟩:=aU.aD.1 h;simp [ih h2]
theorem aU.get {cs:List SV}:∀ {vs:List Value},aU p μ M cs vs→∀ {i:Nat} {c:SV},cs[i]? =some c→∃ u,vs[i]? =some u∧Rp p μ M c u:=by
 induction cs with
 | nil=>intro vs _ i c h;simp at h
 | cons x cs ih=>
  intro vs h i c hi;obtain ⟨u,us,rfl,h1,h2⟩:=aU.aD.1 h;cases i with
  | zero=>simp at hi;subst hi;exact ⟨u,rfl,h1⟩
  | succ i=>simp at hi;simpa using ih h2 hi
theorem aU.drop {cs:List SV}{vs:List Value}(n:Nat)(h:aU p μ M cs vs):aU p μ M (cs.drop n) (vs.drop n):=by
 induction n generalizing cs vs with
 | zero=>simpa using h
 | succ n ih=>
  cases cs with
  | nil=>rw [aU.aR.1 h];simp;exact aU.aR.2 rfl
  | cons c cs=>
   obtain ⟨u,us,rfl,_,h2⟩:=aU.aD.1 h
   simpa using ih h2
theorem aU.take {cs:List SV}{vs:List Value}(n:Nat)(h:aU p μ M cs vs):aU p μ M (cs.take n) (vs.take n):=by
 induction n generalizing cs vs with
 | zero=>simp;exact aU.aR.2 rfl
 | succ n ih=>
  cases cs with
  | nil=>rw [aU.aR.1 h];simp;exact aU.aR.2 rfl
  | cons c cs=>
   obtain ⟨u,us,rfl,h1,h2⟩:=aU.aD.1 h;simp;exact aU.aD.2 ⟨_,_,rfl,h1,ih h2⟩
theorem aU.append {cs ds:List SV}{vs us:List Value}(h:aU p μ M cs vs)(k:aU p μ M ds us):aU p μ M (cs++ds) (vs++us):=by
 induction cs generalizing vs with
 | nil=>rw [aU.aR.1 h];simpa using k
 | cons c cs ih=>
  obtain ⟨u,us',rfl,h1,h2⟩:=aU.aD.1 h;simp;exact aU.aD.2 ⟨_,_,rfl,h1,ih h2⟩
end
theorem dB.get {M:Mem}{b:Nat}:∀ {cs:List DV} {o i:Nat} {c:DV},dB M b o cs→cs[i]? =some c→∃ u,M b (o+i)=some u∧bX M c u
 | [],_,_,_,_,h=>by simp at h
 | x ::cs,o,i,c,hr,h=>by
  simp only [dB] at hr;cases i with
  | zero=>simp at h;subst h;simpa using hr.1
  | succ i=>
   simp at h;have:=dB.get hr.2 h
   rwa [show o+1+i=o+(i+1) by omega] at this
theorem dB.drop {M:Mem}{b:Nat}:∀ {cs:List DV} {o:Nat} (i:Nat),dB M b o cs→dB M b (o+i) (cs.drop i)
 | cs,o,0,h=>by simpa using h
 | [],o,i+1,h=>by simp [dB]
 | x::cs,o,i+1,h=>by
  simp only [dB] at h;have:=dB.drop i h.2
  rwa [show o+1+i=o+(i+1) by omega] at this
theorem dB.take {M:Mem}{b:Nat}:∀ {cs:List DV} {o:Nat} (i:Nat),dB M b o cs→dB M b o (cs.take i)
 | cs,o,0,h=>by simp [dB]
 | [],o,i+1,h=>by simp [dB]
 | x::cs,o,i+1,h=>by
  simp only [List.take_succ_cons,dB] at h ⊢;exact ⟨h.1,dB.take i h.2⟩
theorem dB.mk {M:Mem}{b:Nat}:∀ {cs:List DV} {o:Nat},(∀ (i:Nat) (c:DV),cs[i]? =some c→∃ u,M b (o+i)=some u∧bX M c u)→dB M b o cs
 | [],_,_=>by simp [dB]
 | x::cs,o,h=>by
  simp only [dB];refine ⟨by simpa using h 0 x rfl,dB.mk fun i c hi=> ?_⟩;have:=h (i+1) c (by simpa using hi)
  rwa [show o+1+i=o+(i+1) by omega]
def SV.dO:SV→Bool
 | .agg _ | .dm _ | .any=>false
 | _=>true
theorem bX.one {M:Mem}{x:DV}{v:Value}(h:bX M x v):v.oneCell'=true:=by
 cases x <;> simp only [bX] at h
 all_goals first
  | (subst h;rfl)
  | (obtain ⟨b,rfl,_⟩:=h;rfl)
  | (obtain ⟨A,c,rfl,_⟩:=h;rfl)
theorem dy.one {μ:Nat→Nm}{M:Mem}{s:SV}{v:Value}(hs:s.dO=true)(h:dy μ M s v):v.oneCell'=true:=by
 cases s <;> simp only [SV.dO,Bool.false_eq_true] at hs <;> simp only [dy] at h
 case d=>exact h.one
 case gs=>rcases h with ⟨_,rfl⟩ | ⟨_,_,_,rfl⟩ <;> rfl
 case bs=>obtain ⟨_,_,rfl,_⟩:=h;rfl
 case mp=>rcases h with ⟨_,rfl⟩ | ⟨_,rfl⟩ <;> rfl
 all_goals first
  | (subst h;rfl)
  | (obtain ⟨_,_,rfl,_⟩:=h;rfl)
def SV.cells:SV→List SV
 | .agg cs=>cs
 | s=>[s]
theorem Rp.cells {p:Nat→Prop}{μ:Nat→Nm}{M:Mem}{s:SV}{v:Value}(hs:s.cells.all SV.dO=true)(h:Rp p μ M s v):aU p μ M s.cells v.cells.toList∧∀ u∈v.cells.toList,u.oneCell'=true:=by
 have key:∀ (cs:List SV) (vs:List Value),cs.all SV.dO=true→aU p μ M cs vs→∀ u∈vs,u.oneCell'=true:=by
  intro cs
  induction cs with
  | nil=>intro vs _ h u hu;rw [aU.aR.1 h] at hu;cases hu
  | cons c cs ih=>
   intro vs hc h u hu;obtain ⟨u',us,rfl,h1,h2⟩:=aU.aD.1 h;simp at hc;rcases List.mem_cons.1 hu with rfl | hu
   ·exact h1.rep.one hc.1
   ·exact ih us (by simpa using hc.2) h2 u hu
 by_cases ha:∃ cs,s= .agg cs
 ·obtain ⟨cs,rfl⟩:=ha
  obtain ⟨vs,rfl,h1⟩:=Rp.eT.1 h;exact ⟨h1,key _ _ hs h1⟩
 ·have hc:s.cells=[s]:=by cases s <;> first | rfl | exact absurd ⟨_,rfl⟩ ha
  rw [hc] at hs ⊢;simp at hs;have ho:=h.rep.one hs;have hv:v.cells= #[v]:=by cases v <;> simp_all [Value.cells,Value.oneCell']
  rw [hv];exact ⟨aU.aD.2 ⟨v,[],rfl,h,aU.aR.2 rfl⟩,by simpa using ho⟩
def DP:List (Nat×List DV):=ym.map fun x=>(x.1,x.2.map fun c=> .int c.1 c.2)
def qe (M:Mem):Prop:=∀ g cs,DP.lookup g=some cs→dB M g 0 cs
theorem qe.le {M M':Mem}(h:qe M)(hM:Mem.le M M'):qe M':=fun g cs hg=>dB.mono hM g 0 cs (h g cs hg)
end
section
inductive Ob where
 | box (t:TypeId) (cs:List SV)
 | arr (e:TypeId) (sz len:Nat) (cs:List SV)
 | map (es:List (Nat×SV×SV)) (clock:Nat)
 | gp
 | iter (m:Option Nat) (since:Nat) (seen:List Nat) (stepped:Nat)
 | pT (N:Nat) (ts:List Nat) (cs:List SV) (ps:List Nat) (as bd:Code) (st:LoopState) (pe:Option Code)
abbrev Hp:=List (Nat×Ob)
def lk (h:Hp)(n:Nat):Option Ob:=h.lookup n
def gP (p:Nat→Prop)(μ:Nat→Nm)(M:Mem):List (Nat×SV×SV)→List MapEntry→Prop
 | [],es=>es=[]
 | (b,k,v)::r,es=>∃ e es',es=e::es'∧e.born=b∧Rp p μ M k e.key∧Rp p μ M v e.val∧gP p μ M r es'
theorem gP.more {p p':Nat→Prop}{μ a_:Nat→Nm}{M M':Mem}(hp:∀ n,p n→p' n)(kf:∀ n,p n→a_ n=μ n)(hM:Mem.le M M'):
  ∀ (r:List (Nat×SV×SV)) (es:List MapEntry),gP p μ M r es→gP p' a_ M' r es
 | [],es,h=>h
 | (b,k,v)::r,es,⟨e,es',h1,h2,h3,h4,h5⟩=>⟨e,es',h1,h2,h3.more hp kf hM,h4.more hp kf hM,gP.more hp kf hM r es' h5⟩
def cE (p:Nat→Prop)(μ:Nat→Nm)(M:Mem)(w:World)(m:Nm):Ob→Prop
 | .box t cs=>m.live=true∧∃ vs:Array Value,w.heap[m.blk]? =some (.cells vs t (0,0))∧aU p μ M cs vs.toList
 | .arr e sz len cs=>(m.live=false∧len=0∧cs=[])∨m.live=true∧∃ vs:Array Value,w.heap[m.blk]? =some (.cells vs e (0,0))∧cs.length=len*sz∧len≤m.cap∧m.cap≤maxLen∧vs.size=m.cap*sz∧aU p μ M cs (vs.toList.take (len*sz))
 | .map es c=>m.live=true∧∃ dP:Array MapEntry,w.heap[m.blk]? =some (.map dP c)∧gP p μ M es dP.toList
 | .gp=>m.live=false
 | .iter mo since seen st=>m.live=true∧(∀ n,mo=some n→p n)∧w.heap[m.blk]? =some (.mapIter (mo.map fun n=>(μ n).blk) since seen.toArray st)
 | .pT N ts cs ps as bd st pe=>m.live=true∧∃ r:Loop,w.heap[m.blk]? =some (.loop r)∧aU p μ M cs (ts.map fun t=>r.tmps.getD t undef)∧r.tmps.size=N∧r.params.toList=ps∧r.assign=as∧r.body=bd∧r.state=st∧r.pending=pe
theorem cE.lt {p:Nat→Prop}{μ:Nat→Nm}{M:Mem}{w:World}{m:Nm}{ob:Ob}(h:cE p μ M w m ob)(hl:m.live=true):m.blk<w.heap.size:=by
 have key:∀ {x:Obj},w.heap[m.blk]? =some x→m.blk<w.heap.size:=fun hx=>(Array.getElem?_eq_some_iff.1 hx).1
 cases ob <;> simp only [cE] at h
 case box=>obtain ⟨_,_,h,_⟩:=h;exact key h
 case arr=>
  rcases h with ⟨h,_⟩ | ⟨_,_,h,_⟩
  ·rw [hl] at h;cases h
  ·exact key h
 case map=>obtain ⟨_,_,h,_⟩:=h;exact key h
 case gp=>rw [hl] at h;cases h
 case iter=>exact key h.2.2
 case pT=>obtain ⟨_,_,h,_⟩:=h;exact key h
theorem cE.more {p p':Nat→Prop}{μ a_:Nat→Nm}{M M':Mem}{w w':World}{m:Nm}{ob:Ob}(h:cE p μ M w m ob)(hp:∀ n,p n→p' n)(kf:∀ n,p n→a_ n=μ n)(hM:Mem.le M M')
  (hw:m.live=true→w'.heap[m.blk]? =w.heap[m.blk]?):cE p' a_ M' w' m ob:=by
 cases ob <;> simp only [cE] at h ⊢
 case box=>obtain ⟨h0,vs,h1,h2⟩:=h;exact ⟨h0,vs,(hw h0).trans h1,h2.more hp kf hM⟩
 case arr=>
  rcases h with h | ⟨h0,vs,h1,h2,h3,h4,h5,h6⟩
  ·exact .inl h
  ·exact .inr ⟨h0,vs,(hw h0).trans h1,h2,h3,h4,h5,h6.more hp kf hM⟩
 case map=>obtain ⟨h0,vs,h1,h2⟩:=h;exact ⟨h0,vs,(hw h0).trans h1,gP.more hp kf hM _ _ h2⟩
 case gp=>exact h
 case iter mo _ _ _=>
  refine ⟨h.1,fun n hn=>hp n (h.2.1 n hn),(hw h.1).trans (h.2.2.trans ?_)⟩;cases mo with
  | none=>rfl
  | some n=>simp [kf n (h.2.1 n rfl)]
 case pT=>obtain ⟨h0,r,h1,h2,h3⟩:=h;exact ⟨h0,r,(hw h0).trans h1,h2.more hp kf hM,h3⟩
structure qE (M:Mem)(w:World):Prop where
 cell:∀ b o v,M b o=some v→w.cell? ⟨b,o,none⟩=some v
 kF:qe M
instance {M:Mem} {w:World}:CoeFun (qE M w) fun _=>∀ b o v,M b o=some v→w.cell? ⟨b,o,none⟩=some v:=⟨qE.cell⟩
structure bU (p:Nat→Prop)(μ:Nat→Nm)(M:Mem)(c:Nat→Option Ob)(w:World):Prop where
 mem:qE M w
 obs:∀ n ob,c n=some ob→p n∧cE p μ M w (μ n) ob∧((μ n).live=true→∀ o,M (μ n).blk o=none)
 inj:∀ n m,c n≠none→c m≠none→(μ n).live=true→(μ m).live=true→(μ n).blk=(μ m).blk→n=m
def Tape (w w':World):Prop:=w'.tape=w.tape∧w.drawn≤w'.drawn
theorem Tape.refl (w:World):Tape w w:=⟨rfl,Nat.le_refl _⟩
theorem Tape.trans {w w' w'':World}(h:Tape w' w'')(k:Tape w w'):Tape w w'':=⟨h.1.trans k.1,Nat.le_trans k.2 h.2⟩
structure Ev (c:Nat→Option Ob)(new:Nat→Prop)(μ:Nat→Nm)(M:Mem)(w:World)(c':Nat→Option Ob)(a_:Nat→Nm)(M':Mem)(w':World):Prop where
 old:∀ n,¬ new n→a_ n=μ n
 mem:Mem.le M M'
 frame:∀ b,b<w.heap.size→(∀ n,c n≠none→(μ n).live=true→(μ n).blk≠b)→w'.heap[b]? =w.heap[b]? ∧∀ o,M' b o=M b o
 size:w.heap.size≤w'.heap.size
 names:∀ n,c' n≠none→(new n∧((a_ n).live=true→w.heap.size≤(a_ n).blk∨∃ m,c m≠none∧(μ m).live=true∧(μ m).blk=(a_ n).blk))∨(¬ new n∧c n≠none)
 os:w'.os=w.os
 tape:Tape w w'
 output:w'.output=w.output
def zY (H F F':Nat→Option Ob)(n:Nat):Option Ob:=if (F n).isSome || (F' n).isSome then F' n else H n
theorem fq {H F F':Nat→Option Ob}{n:Nat}(h:F n≠none∨F' n≠none):zY H F F' n=F' n:=by
 unfold zY;rw [if_pos];rcases h with h | h <;> simp [Option.isSome_iff_ne_none,h]
theorem dF {H F F':Nat→Option Ob}{n:Nat}(h:F n=none)(h':F' n=none):zY H F F' n=H n:=by simp [zY,h,h']
section
variable {p p':Nat→Prop} {μ a_:Nat→Nm} {M M':Mem} {H F F':Nat→Option Ob} {w w':World} {new:Nat→Prop}
theorem bU.sub (hS:bU p μ M H w)(hsub:∀ n ob,F n=some ob→H n=some ob):bU p μ M F w:=
 have hne:∀ n,F n≠none→H n≠none:=fun n h=>by
  obtain ⟨ob,ho⟩:=Option.ne_none_iff_exists'.1 h;rw [hsub n ob ho];simp
 ⟨hS.mem,fun n ob h=>hS.obs n ob (hsub n ob h),fun n m hn hm=>hS.inj n m (hne n hn) (hne m hm)⟩
theorem bU.lt (hS:bU p μ M H w){n:Nat}(h:H n≠none)(hl:(μ n).live=true):(μ n).blk<w.heap.size:=by
 obtain ⟨ob,ho⟩:=Option.ne_none_iff_exists'.1 h;exact (hS.obs n ob ho).2.1.lt hl
theorem bU.Ad (hS:bU p μ M H w)(hsub:∀ n ob,F n=some ob→H n=some ob)(hnew:∀ n,new n→ ¬ p n)
  (hE:Ev F new μ M w F' a_ M' w') (rY:bU p' a_ M' F' w') (hp:∀ n,p n→p' n):
  bU p' a_ M' (zY H F F') w'∧Ev H new μ M w (zY H F F') a_ M' w':=by
 have hne:∀ n,F n≠none→H n≠none:=fun n h=>by
  obtain ⟨ob,ho⟩:=Option.ne_none_iff_exists'.1 h;rw [hsub n ob ho];simp
 have hpn:∀ n,H n≠none→p n:=fun n h=>by
  obtain ⟨ob,ho⟩:=Option.ne_none_iff_exists'.1 h;exact (hS.obs n ob ho).1
 have hold:∀ n,p n→a_ n=μ n:=fun n h=>hE.old n fun h'=>hnew n h' h
 have far:∀ n,H n≠none→F n=none→(μ n).live=true→∀ m,F m≠none→(μ m).live=true→(μ m).blk≠(μ n).blk:=fun n hn hf l1 m hm l2 e=>by
  have:=hS.inj m n (hne m hm) hn l2 l1 e;subst this;exact hm hf
 have cut:∀ n,(F n≠none∨F' n≠none)∨(F n=none∧F' n=none):=fun n=>by
  cases h1:F n <;> cases h2:F' n <;> simp
 refine ⟨⟨rY.mem,fun n ob hn=> ?_,fun n m hn hm ln lm e=> ?_⟩,⟨hE.old,hE.mem,fun b hb hf=> ?_,hE.size,fun n hn=> ?_,hE.os,hE.tape,hE.output⟩⟩
 ·rcases cut n with h | ⟨h1,h2⟩
  ·rw [fq h] at hn
   exact rY.obs n ob hn
  ·rw [dF h1 h2] at hn
   obtain ⟨a1,a2,a3⟩:=hS.obs n ob hn;have hHn:H n≠none:=by rw [hn];simp
   have hb:=fun l:(μ n).live=true=>hE.frame (μ n).blk (a2.lt l) (far n hHn h1 l)
   refine ⟨hp n a1,?_,?_⟩
   ·rw [hold n a1]
    exact a2.more hp hold hE.mem fun l=>(hb l).1
   ·intro l o
    rw [hold n a1] at l ⊢;rw [(hb l).2];exact a3 l o
 ·have one:∀ n m,F' n≠none→(F m=none∧F' m=none)→H m≠none→(a_ n).live=true→(a_ m).live=true→(a_ n).blk=(a_ m).blk→False:=by
   intro n m hn hm hHm ln lm e;have pm:=hpn m hHm;rw [hold m pm] at e lm;rcases hE.names n hn with ⟨_,hh⟩ | ⟨h1,h2⟩
   ·rcases hh ln with h | ⟨q,hq,lq,e'⟩
    ·have:=hS.lt hHm lm;omega
    ·exact far m hHm hm.1 lm q hq lq (e'.trans e)
   ·rw [hE.old n h1] at e ln
    exact far m hHm hm.1 lm n h2 ln e
  rcases cut n with hn' | hn' <;> rcases cut m with hm' | hm'
  ·rw [fq hn'] at hn;rw [fq hm'] at hm
   exact rY.inj n m hn hm ln lm e
  ·rw [fq hn'] at hn;rw [dF hm'.1 hm'.2] at hm
   exact (one n m hn hm' hm ln lm e).elim
  ·rw [dF hn'.1 hn'.2] at hn;rw [fq hm'] at hm
   exact (one m n hm hn' hn lm ln e.symm).elim
  ·rw [dF hn'.1 hn'.2] at hn;rw [dF hm'.1 hm'.2] at hm
   rw [hold n (hpn n hn)] at e ln;rw [hold m (hpn m hm)] at e lm;exact hS.inj n m hn hm ln lm e
 ·exact hE.frame b hb fun n hn=>hf n (hne n hn)
 ·rcases cut n with h | ⟨h1,h2⟩
  ·rw [fq h] at hn
   rcases hE.names n hn with ⟨a,hh⟩ | ⟨a,b⟩
   ·refine .inl ⟨a,fun l=> ?_⟩
    rcases hh l with b | ⟨m,hm,lm,e⟩
    ·exact .inl b
    ·exact .inr ⟨m,hne m hm,lm,e⟩
   ·exact .inr ⟨a,hne n b⟩
  ·rw [dF h1 h2] at hn
   exact .inr ⟨fun h=>hnew n h (hpn n hn),hn⟩
theorem Ev.refl (c:Nat→Option Ob)(new:Nat→Prop)(μ:Nat→Nm)(M:Mem)(w:World)(h:∀ n,c n≠none→ ¬ new n):Ev c new μ M w c μ M w:=
 ⟨fun _ _=>rfl,Mem.le_refl M,fun _ _ _=>⟨rfl,fun _=>rfl⟩,Nat.le_refl _,fun n hn=> .inr ⟨h n hn,hn⟩,rfl,Tape.refl _,rfl⟩
theorem Ev.trans {c c1 c2:Nat→Option Ob}{new1 new2:Nat→Prop}{xk Js:Nat→Nm}{M1 M2:Mem}{w1 w2:World}
    (h1:Ev c new1 μ M w c1 xk M1 w1) (h2:Ev c1 new2 xk M1 w1 c2 Js M2 w2):Ev c (fun n=>new1 n∨new2 n) μ M w c2 Js M2 w2 where
  old n hn:=(h2.old n fun h=>hn (.inr h)).trans (h1.old n fun h=>hn (.inl h))
  mem:=Mem.le_trans h1.mem h2.mem
  frame b hb hf:=by
    have e1:=h1.frame b hb hf;have e2:=h2.frame b (Nat.lt_of_lt_of_le hb h1.size) fun n hn ln he=>by
      rcases h1.names n hn with ⟨_,hh⟩ | ⟨h,h'⟩
      · rcases hh ln with h | ⟨m,hm,lm,e⟩
        · omega
        · exact hf m hm lm (e.trans he)
      · rw [h1.old n h] at he ln
        exact hf n h' ln he
    exact ⟨e2.1.trans e1.1,fun o=>(e2.2 o).trans (e1.2 o)⟩
  size:=Nat.le_trans h1.size h2.size
  names n hn:=by
    rcases h2.names n hn with ⟨a,hh⟩ | ⟨a,b⟩
    · refine .inl ⟨.inr a,fun l=> ?_⟩
      rcases hh l with b | ⟨m,hm,lm,e⟩
      · exact .inl (Nat.le_trans h1.size b)
      · rcases h1.names m hm with ⟨_,hh'⟩ | ⟨h,h'⟩
        · rcases hh' lm with h | ⟨q,hq,lq,e'⟩
          · exact .inl (by rw [← e];exact h)
          · exact .inr ⟨q,hq,lq,e'.trans e⟩
        · rw [h1.old m h] at e lm
          exact .inr ⟨m,h',lm,e⟩
    · by_cases hn2:new1 n
      · rcases h1.names n b with ⟨_,hh'⟩ | ⟨h,h'⟩
        · refine .inl ⟨.inl hn2,fun l=> ?_⟩
          rw [h2.old n a] at l ⊢;exact hh' l
        · exact absurd hn2 h
      · rcases h1.names n b with ⟨h,_⟩ | ⟨h,h'⟩
        · exact absurd h hn2
        · exact .inr ⟨fun hh=>hh.elim hn2 a,h'⟩
  os:=h2.os.trans h1.os
  tape:=h2.tape.trans h1.tape
  output:=h2.output.trans h1.output
theorem Ev.tw {c c':Nat→Option Ob}{new new':Nat→Prop}(h:Ev c new μ M w c' a_ M' w')(hi:∀ n,new n↔new' n):Ev c new' μ M w c' a_ M' w':=by
 have:new=new':=funext fun n=>propext (hi n)
 rw [← this];exact h
theorem Ev.yo {c c' c'':Nat→Option Ob}(h:Ev c new μ M w c' a_ M' w')(hc:∀ n,c'' n≠none→c' n≠none):Ev c new μ M w c'' a_ M' w':=
 ⟨h.old,h.mem,h.frame,h.size,fun n hn=>h.names n (hc n hn),h.os,h.tape,h.output⟩
theorem Ev.drew {c c':Nat→Option Ob}(h:Ev c new μ M w c' a_ M' w'):Ev c new μ M w c' a_ M' w'.drew:=
 ⟨h.old,h.mem,h.frame,h.size,h.names,h.os,⟨h.tape.1,Nat.le_trans h.tape.2 (Nat.le_succ _)⟩,h.output⟩
theorem bU.drew (h:bU p μ M H w):bU p μ M H w.drew:=by
 refine ⟨⟨h.mem.cell,h.mem.kF⟩,fun n ob hn=> ?_,h.inj⟩;obtain ⟨a,b,c⟩:=h.obs n ob hn;exact ⟨a,b.more (fun _ h=>h) (fun _ _=>rfl) (Mem.le_refl M) fun _=>rfl,c⟩
theorem bU.more (h:bU p μ M H w)(hp:∀ n,p n→p' n):bU p' μ M H w:=by
 refine ⟨h.mem,fun n ob hn=> ?_,h.inj⟩;obtain ⟨a,b,c⟩:=h.obs n ob hn;exact ⟨hp n a,b.more hp (fun _ _=>rfl) (Mem.le_refl M) fun _=>rfl,c⟩
end
end
end Go.Sl
namespace Go.Sl
open Go.RowKit
section
inductive X where
 | t (n:Nat)
 | k (s:SV)
 deriving Inhabited
inductive SO where
 | mv (x:X)
 | pick (c a b:X)
 | alloc (t:TypeId) (z:List SV)
 | box (t:TypeId) (x:X)
 | load (sz:Option Nat) (x:X)
 | store (sz:Nat) (x v:X)
 | aX (off:Nat) (x:X)
 | Cc (len sz:Nat) (x i:X)
 | eD (sz:Nat) (x i:X)
 | field (off:Nat) (sz:Option Nat) (x:X)
 | index (len sz:Nat) (agg:Bool) (x i:X)
 | bin (op:BinOp) (x y:X)
 | eqv (neg:Bool) (ks:List Bool) (x y:X)
 | qC (neg:Bool) (x y:X)
 | kG (neg:Bool) (kd:Nat) (x:X)
 | not (x:X)
 | neg (x:X)
 | lens (x:X)
 | dQ (x i:X)
 | J5 (len sz:Nat) (x:X) (lo hi:Option X)
 | J6 (x h m:X)
 | conv (k:IntKind) (x:X)
 | ext (i:Nat) (x:X)
 | dR (x:X)
 | fL (z:List SV) (parts:List (Nat×Nat×X))
 | lB (e sz len:Nat) (z:List SV) (parts:List (Nat×Nat×X))
 | slc (sz:Nat) (x:X) (lo hi:Option X)
 | len (x:X)
 | mx (x y:X)
 | mn (x y:X)
 | app (e sz bytes:Nat) (s x:X)
 | sQ (f:Fn) (first cap:List X)
 | zZ
 | Nq (e sz bytes:Nat) (z:List SV) (len cap:X)
 | look (ks:List Bool) (agg:Bool) (z:SV) (m i:X) (ok:Bool)
 | qF (ks:List Bool) (agg:Bool) (m i v:X)
 | J7 (m:X)
 | G9 (ks:List Bool) (agg:Bool) (m i:X)
 | mO (m:X)
 | lH (it:X)
 | oo (it:X)
 | copy (e sz:Nat) (d s:X)
 | sR (ks:List Bool) (agg:Bool) (z:SV) (m i:X)
 | sS (m s x:X)
 | LK (sz:Nat) (z:List SV) (x:X)
 | call (f:X) (args:List X)
 deriving Inhabited
def cC:Value→Option SV
 | .int k n=>some (.d (.int k n))
 | .bool b=>some (.d (.bool b))
 | .pointer none=>some (.d .j0)
 | .map none=>some (.d .jj)
 | .nilFunc=>some (.d .gL)
 | .slice none 0 0=>some (.d .aJ)
 | .string b=>some (.d (.str (b.data.toList.map UInt8.toNat)))
 | _=>none
def LL:List Value→Option (List SV)
 | []=>some []
 | v::vs=>match cC v,LL vs with
  | some s,some ss=>some (s::ss)
  | _,_=>none
def cV:Value→Option SV
 | .agg cs=>(LL cs.toList).map .agg
 | v=>cC v
def cX:Operand→Option X
 | .tmp t=>some (.t t)
 | .const v=>(cV v).map .k
 | .func f=>some (.k (.fn (.func f) [] []))
 | .global g=>(DP.lookup g).map fun cs=> .k (.vp cs 0)
def DJ:List Operand→Option (List X)
 | []=>some []
 | v::vs=>match cX v,DJ vs with
  | some s,some ss=>some (s::ss)
  | _,_=>none
theorem DQ {p:Nat→Prop}{μ:Nat→Nm}{M:Mem}:∀ {v:Value} {s:SV},cC v=some s→Rp p μ M s v∧s.dO=true:=by
 intro v s h;unfold cC at h
 split at h <;> first | cases h | skip
 all_goals exact ⟨Rp.cU.2 (by simp [bX]),rfl⟩
theorem Bf {p:Nat→Prop}{μ:Nat→Nm}{M:Mem}:∀ {vs:List Value} {ss:List SV},LL vs=some ss→aU p μ M ss vs∧ss.all SV.dO=true:=by
 intro vs
 induction vs with
 | nil=>intro ss h;simp [LL] at h;subst h;exact ⟨aU.aR.2 rfl,rfl⟩
 | cons v vs ih=>
  intro ss h;simp only [LL] at h
  split at h
  ·rename_i s ss' h1 h2
   simp at h;subst h;obtain ⟨a1,a2⟩:=DQ (p:=p) (μ:=μ) (M:=M) h1;obtain ⟨b1,b2⟩:=ih h2;exact ⟨aU.aD.2 ⟨_,_,rfl,a1,b1⟩,by simp [a2,b2]⟩
  ·cases h
theorem DR {p:Nat→Prop}{μ:Nat→Nm}{M:Mem}{v:Value}{s:SV}(h:cV v=some s):Rp p μ M s v:=by
 unfold cV at h
 split at h
 ·rename_i cs
  obtain ⟨ss,h1,rfl⟩:=Option.map_eq_some_iff.1 h;exact Rp.eT.2 ⟨cs,rfl,(Bf h1).1⟩
 ·exact (DQ h).1
def ev (E:Nat→Option SV):X→Option SV
 | .t n=>E n
 | .k s=>some s
def pY (E:Nat→Option SV):List X→Option (List SV)
 | []=>some []
 | x::xs=>match ev E x,pY E xs with
  | some s,some ss=>some (s::ss)
  | _,_=>none
def ig (E:Nat→Option SV)(xs:Array Operand)(p:Nat→Prop)(μ:Nat→Nm)(M:Mem)(a:Act):Prop:=
 (∀ t,Operand.tmp t∈xs→∀ s,E t=some s→Rp p μ M s (a.tmps.getD t undef))∧qe M
section
variable {E:Nat→Option SV} {xs:Array Operand} {p:Nat→Prop} {μ:Nat→Nm} {M:Mem} {a:Act}
theorem ig.get (h:ig E xs p μ M a){o:Operand}{x:X}{s:SV}(ho:o∈xs)(hx:cX o=some x)(hs:ev E x=some s):Rp p μ M s (a.eval o):=by
 cases o with
 | tmp t=>
  simp [cX] at hx;subst hx;exact h.1 t ho s hs
 | const v=>
  simp only [cX] at hx;obtain ⟨s',h1,rfl⟩:=Option.map_eq_some_iff.1 hx;simp [ev] at hs;subst hs;exact DR h1
 | func f=>
  simp [cX] at hx;subst hx;simp [ev] at hs;subst hs;exact Rp.rX.2 ⟨#[],#[],rfl,aU.aR.2 rfl,aU.aR.2 rfl⟩
 | global g=>
  simp only [cX] at hx;obtain ⟨cs,h1,rfl⟩:=Option.map_eq_some_iff.1 hx;simp [ev] at hs;subst hs;exact fun a_ _=>by
   simp only [dy];exact ⟨g,0,rfl,h.2 g cs h1⟩
theorem ig.DS (h:ig E xs p μ M a):∀ {os:List Operand} {ys:List X} {ss:List SV},(∀ o∈os,o∈xs)→DJ os=some ys→pY E ys=some ss→aU p μ M ss (os.map a.eval)
 | [],ys,ss,_,hx,hs=>by
  simp [DJ] at hx;subst hx;simp [pY] at hs;subst hs;exact aU.aR.2 rfl
 | o ::os,ys,ss,ho,hx,hs=>by
  simp only [DJ] at hx
  split at hx
  ·rename_i y ys' h1 h2
   simp at hx;subst hx;simp only [pY] at hs
   split at hs
   ·rename_i s ss' h3 h4
    simp at hs;subst hs;exact aU.aD.2 ⟨_,_,rfl,h.get (ho o (by simp)) h1 h3,h.DS (fun o' ho'=>ho o' (by simp [ho'])) h2 h4⟩
   ·cases hs
  ·cases hx
end
structure l6 where
 v:SV
 F:Hp
 F':Hp
 nk:Nat
 ob:Prop
def jP (r:Option Nat):Fence:={ Fence.wide with round:=r}
theorem rZ {r:Option Nat}{n:Nat}{P:Program}{f:FuncId}{args:Array Value}{w:World}{R:Ending→World→Prop}:CallsIn (jP r) n P f args w R↔Calls P f args w R:=
 (callsIn_wide (n:=n):CallsIn Fence.wide n P f args w R↔_)
def OT (P:Program)(o:Oper)(E:Nat→Option SV)(F:Hp)(new:Nat→Prop)(v:SV)(F':Hp):Prop:=
 ∀ (rd:Option Nat) (p:Nat→Prop) (μ:Nat→Nm) (M:Mem) (a:Act) (w:World) (K:Act→World→Prop) (Q:Exit→Act→World→Prop),(∀ n,new n→ ¬ p n)→
  ig E o.op.operands p μ M a→bU p μ M (lk F) w→
  (∀ u a_ M' w',Rp (fun n=>p n∨new n) a_ M' v u→bU (fun n=>p n∨new n) a_ M' (lk F') w'→Ev (lk F) new μ M w (lk F') a_ M' w'→K (a.put o.dst u) w')→
  o.wpIn (jP rd) 0 P a w K Q
section
variable {P:Program} {o:Oper} {E:Nat→Option SV} {F F':Hp} {new:Nat→Prop} {v:SV}
theorem o6 {rd:Option Nat}{a:Act}{w w':World}{x:Next}(hx:∀ d,x≠ .defer d)(h:(execOp a.eval o).run P w= .ok x w'):(o.semAt rd a.eval).run P w= .ok x w':=by
 by_cases hd:∃ c,o.op= .defer c
 ·exfalso
  obtain ⟨c,hd⟩:=hd;simp only [execOp,hd,Sem.run_bind] at h;cases hr:(resolve a.eval c o.type).run P w with
  | ok d w1=>
   rw [hr] at h;simp only [Result.andThen_ok,Sem.run_pure] at h;injection h with h _;exact hx d h.symm
  | halt z w1=>rw [hr] at h;simp [Result.andThen] at h
 ·rw [Oper.semAt_eq rd _ _ (fun c e=>hd ⟨c,e⟩)];exact h
theorem ij {rd:Option Nat}{a:Act}{w w':World}{K:Act→World→Prop}{Q:Exit→Act→World→Prop}{u:Value}(h:(execOp a.eval o).run P w= .ok (.value u) w')(hk:K (a.put o.dst u) w'):o.wpIn (jP rd) 0 P a w K Q:=by
 refine ⟨fun _ _=>trivial,?_⟩;rw [o6 (fun d e=>by cases e) h];exact hk
theorem Bg {rd:Option Nat}{a:Act}{w w':World}{K:Act→World→Prop}{Q:Exit→Act→World→Prop}(h:(execOp a.eval o).run P w= .ok .skip w')(hk:K (a.put o.dst undef) w'):o.wpIn (jP rd) 0 P a w K Q:=by
 refine ⟨fun _ _=>trivial,?_⟩;rw [o6 (fun d e=>by cases e) h];exact hk
theorem OT.pure {k:Nat}(h:∀ (p:Nat→Prop) (μ:Nat→Nm) (M:Mem) (a:Act) (w:World),ig E o.op.operands p μ M a→bU p μ M (lk F) w→
  ∃ u,(execOp a.eval o).run P w= .ok (.value u) w∧Rp p μ M v u):OT P o E F (fun n=>k≤n∧n<k+0) v F:=by
 intro rd p μ M a w K Q hnew hkn hS hK;obtain ⟨u,hr,hu⟩:=h p μ M a w hkn hS;refine ij hr (hK u μ M w (hu.more (fun n h=> .inl h) (fun _ _=>rfl) (Mem.le_refl M)) (hS.more fun n h=> .inl h) (Ev.refl _ _ _ _ _ fun n hn h=>by omega))
def Ae (μ:Nat→Nm)(k:Nat)(m:Nm):Nat→Nm:=fun n=>if n=k then m else μ n
theorem bN (μ:Nat→Nm)(k:Nat)(m:Nm):Ae μ k m k=m:=by simp [Ae]
theorem fD (μ:Nat→Nm)(k:Nat)(m:Nm){n:Nat}(h:n≠k):Ae μ k m n=μ n:=by simp [Ae,h]
theorem vN {p:Nat→Prop}{μ:Nat→Nm}{k:Nat}{m:Nm}(hk: ¬ p k):∀ n,p n→Ae μ k m n=μ n:=fun n hn=>fD μ k m fun e=>hk (e ▸ hn)
theorem gz (w:World)(o:Obj):(w.alloc o).heap[w.heap.size]? =some o:=by show (w.heap.push o)[w.heap.size]? =_;simp
theorem jQ (w:World)(o:Obj){b:Nat}(h:b<w.heap.size):(w.alloc o).heap[b]? =w.heap[b]? :=Below.heap_alloc w o b h
theorem mc {M:Mem}{w:World}(o:Obj)(h:qE M w):qE M (w.alloc o):=by
 refine ⟨?_,h.kF⟩;intro b i v hm;have:=h b i v hm;rw [World.cell?_alloc_lt w o ⟨b,i,none⟩ (World.block_lt_of_cell? w ⟨b,i,none⟩ this)];exact this
theorem tT {M:Mem}{w:World}{b:Nat}(h:qE M w)(hb:w.heap.size≤b):∀ i,M b i=none:=by
 intro i;cases hm:M b i with
 | none=>rfl
 | some v=>
  have:=World.block_lt_of_cell? w ⟨b,i,none⟩ (h b i v hm);simp at this;omega
theorem bE (n:Nat):lk [] n=none:=rfl
theorem cZ {k:Nat}{ob:Ob}(n:Nat):lk [(k,ob)] n=if n=k then some ob else none:=by
 unfold lk;simp only [List.lookup]
 by_cases h:n=k
 ·subst h;simp
 ·rw [if_neg h,show (n == k)=false by simpa using h]
theorem OT.make {k:Nat}{ob:Ob}(h:∀ (p:Nat→Prop) (μ:Nat→Nm) (M:Mem) (a:Act) (w:World),ig E o.op.operands p μ M a→qE M w→
  ∃ u ro cap,(execOp a.eval o).run P w= .ok (.value u) (w.alloc ro)∧
   ∀ (p':Nat→Prop) (a_:Nat→Nm),(∀ n,p n→p' n)→(∀ n,p n→a_ n=μ n)→p' k→a_ k=⟨w.heap.size,cap,true⟩→cE p' a_ M (w.alloc ro) ⟨w.heap.size,cap,true⟩ ob∧Rp p' a_ M v u):
  OT P o E [] (fun n=>k≤n∧n<k+1) v [(k,ob)]:=by
 intro rd p μ M a w K Q hnew hkn hS hK;obtain ⟨u,ro,cap,hr,hu⟩:=h p μ M a w hkn hS.mem;have hk: ¬ p k:=hnew k ⟨Nat.le_refl _,by omega⟩;obtain ⟨h1,h2⟩:=hu (fun n=>p n∨(k≤n∧n<k+1)) (Ae μ k ⟨w.heap.size,cap,true⟩) (fun n h=> .inl h) (vN hk) (.inr ⟨Nat.le_refl _,by omega⟩) (bN _ _ _);refine ij hr (hK u (Ae μ k ⟨w.heap.size,cap,true⟩) M (w.alloc ro) h2 ⟨mc ro hS.mem,fun n kg hn=> ?_,fun n m hn hm _ _ _=> ?_⟩ ⟨fun n hn=> ?_,Mem.le_refl M,fun b hb _=>⟨jQ w ro hb,fun _=>rfl⟩,by simp,fun n hn=> ?_,rfl,⟨rfl,Nat.le_refl _⟩,rfl⟩)
 ·rw [cZ] at hn
  split at hn
  ·rename_i hnk
   subst hnk;simp at hn;subst hn;rw [bN];exact ⟨.inr ⟨Nat.le_refl _,by omega⟩,h1,fun _=>tT hS.mem (Nat.le_refl _)⟩
  ·cases hn
 ·rw [cZ] at hn hm
  split at hn <;> split at hm <;> first | omega | simp at hn hm
 ·exact fD _ _ _ (by omega)
 ·rw [cZ] at hn
  split at hn
  ·rename_i hnk
   subst hnk;exact .inl ⟨⟨Nat.le_refl _,by omega⟩,fun _=> .inl (by rw [bN];exact Nat.le_refl _)⟩
  ·simp at hn
theorem OT.write {k n:Nat}{ob kg:Ob}(h:∀ (p:Nat→Prop) (μ:Nat→Nm) (M:Mem) (a:Act) (w:World),ig E o.op.operands p μ M a→p n→cE p μ M w (μ n) ob→
  ∃ u w',((execOp a.eval o).run P w= .ok (.value u) w'∨((execOp a.eval o).run P w= .ok .skip w'∧u=undef))∧Rp p μ M v u∧cE p μ M w' (μ n) kg∧
   (∀ b,((μ n).live=true→b≠(μ n).blk)→w'.heap[b]? =w.heap[b]?)∧w'.heap.size=w.heap.size∧w'.os=w.os∧Tape w w'∧w'.output=w.output):
  OT P o E [(n,ob)] (fun m=>k≤m∧m<k+0) v [(n,kg)]:=by
 intro rd p μ M a w K Q hnew hkn hS hK;obtain ⟨hp,bz,hmn⟩:=hS.obs n ob (by simp [cZ]);obtain ⟨u,w',hr,hu,hob',hother,hsz,h1,h2,h3⟩:=h p μ M a w hkn hp bz;have hpk:∀ m,p m→(fun m=>p m∨(k≤m∧m<k+0)) m:=fun m hm=> .inl hm
 have key:K (a.put o.dst u) w':=by
  refine hK u μ M w' (hu.more hpk (fun _ _=>rfl) (Mem.le_refl M)) ⟨⟨fun b i x hm=> ?_,hS.mem.kF⟩,fun m ob'' hm=> ?_,fun m m' hm hm' _ _ _=> ?_⟩
   ⟨fun _ _=>rfl,Mem.le_refl M,fun b hb hf=>⟨hother b fun l e=>hf n (by simp [cZ]) l e.symm,fun _=>rfl⟩,by omega,fun m hm=> ?_,h1,h2,h3⟩
  ·have hb:(μ n).live=true→b≠(μ n).blk:=fun l e=>by rw [e,hmn l] at hm;cases hm
   rw [← hS.mem b i x hm];unfold World.cell?;rw [hother b hb]
  ·rw [cZ] at hm
   split at hm
   ·rename_i e
    subst e;simp at hm;subst hm;exact ⟨.inl hp,hob'.more hpk (fun _ _=>rfl) (Mem.le_refl M) fun _=>rfl,hmn⟩
   ·cases hm
  ·rw [cZ] at hm hm'
   split at hm <;> split at hm' <;> first | omega | simp at hm hm'
  ·rw [cZ] at hm
   split at hm
   ·rename_i e
    subst e;exact .inr ⟨by omega,by simp [cZ]⟩
   ·simp at hm
 rcases hr with hr | ⟨hr,rfl⟩
 ·exact ij hr key
 ·exact Bg hr key
end
end
section
def dV (P:Program)(t:TypeId):Option (Option Nat):=
 match P.underlying t,P.info? t with
 | some (.struct _),some i=>some (some i.size)
 | some (.array _ _),some i=>some (some i.size)
 | some _,some _=>some none
 | _,_=>none
def gi (P:Program)(t:TypeId):Option (List SV):=
 match P.info? t with
 | some i=>match i.zero with
  | some z=>LL z.cells.toList
  | none=>none
 | none=>none
section
variable {P:Program} {w:World}
theorem yp {t:TypeId}{i:TypeInfo}(h:P.info? t=some i):(typeInfo t).run P w= .ok i w:=by simp [typeInfo,h]
theorem dS {t:TypeId}{i:TypeInfo}(h:P.info? t=some i):(sizeOf t).run P w= .ok i.size w:=by simp [sizeOf,yp h]
theorem qG {t:TypeId}{i:TypeInfo}{z:Value}(h:P.info? t=some i)(hz:i.zero=some z):(zeroValue t).run P w= .ok z w:=by simp [zeroValue,yp h,hz]
theorem r6 {t:TypeId}(h:dV P t=some none):(isAgg t).run P w= .ok false w:=by
 unfold dV at h;cases hu:P.underlying t with
 | none=>simp [hu] at h
 | some d=>
  rw [hu] at h;simp only [isAgg,Sem.run_bind,run_underlying hu,Result.andThen_ok];cases hi:P.info? t <;> rw [hi] at h <;> cases d <;> simp at h ⊢
theorem kB {t:TypeId}{n:Nat}(h:dV P t=some (some n)):(isAgg t).run P w= .ok true w∧(sizeOf t).run P w= .ok n w:=by
 unfold dV at h;cases hu:P.underlying t with
 | none=>simp [hu] at h
 | some d=>
  rw [hu] at h;simp only [isAgg,Sem.run_bind,run_underlying hu,Result.andThen_ok];cases hi:P.info? t with
  | none=>rw [hi] at h;cases d <;> simp at h
  | some i=>
   rw [hi] at h;have hs:(sizeOf t).run P w= .ok i.size w:=dS hi;cases d <;> simp at h ⊢ <;> (subst h;exact hs)
theorem tc {t:TypeId}{a:Addr}{v:Value}(h:dV P t=some none)(hc:w.cell? a=some v):(loadVar t a).run P w= .ok v w:=by
 simp only [loadVar,Sem.run_bind,r6 h,Result.andThen_ok,Bool.false_eq_true,if_false,run_load,hc]
theorem td {t:TypeId}{a:Addr}{cs:List Value}(h:dV P t=some (some cs.length))(hc:∀ (j:Nat) (v:Value),cs[j]? =some v→w.cell? (a.add j)=some v):
  (loadVar t a).run P w= .ok (.agg cs.toArray) w:=by
 simp only [loadVar,Sem.run_bind,(kB h).1,(kB h).2,Result.andThen_ok,if_true,run_loadCells_list w a cs hc,Sem.run_pure]
theorem ej (b o n:Nat):Addr.add ⟨b,o,none⟩ n=⟨b,o+n,none⟩:=Addr.add_lit b o n
theorem cell_of {b:Nat}{vs:Array Value}{t:TypeId}{fr:Nat×Nat}(h:w.heap[b]? =some (.cells vs t fr))(i:Nat):w.cell? ⟨b,i,none⟩=vs[i]? :=by
 simp [World.cell?,h]
theorem gA {t:TypeId}{z:List SV}(h:gi P t=some z){p:Nat→Prop}{μ:Nat→Nm}{M:Mem}:∃ (v:Value),(∀ w:World,(zeroValue t).run P w= .ok v w)∧aU p μ M z v.cells.toList∧z.all SV.dO=true:=by
 unfold gi at h
 split at h
 ·rename_i i hi
  split at h
  ·rename_i z' hz
   obtain ⟨a,b⟩:=Bf (p:=p) (μ:=μ) (M:=M) h;exact ⟨z',fun w=>qG hi hz,a,b⟩
  ·cases h
 ·cases h
theorem bU.one {p:Nat→Prop}{μ:Nat→Nm}{M:Mem}{n:Nat}{ob:Ob}(h:bU p μ M (lk [(n,ob)]) w):p n∧cE p μ M w (μ n) ob∧((μ n).live=true→∀ o,M (μ n).blk o=none):=h.obs n ob (by simp [cZ])
def gq (H:Nat→Option Ob):SV→Option (List SV×Nat×Hp)
 | .ptr n off=>match H n with
  | some (.box t cs)=>some (cs,off,[(n,.box t cs)])
  | some (.arr e sz len cs)=>some (cs,off,[(n,.arr e sz len cs)])
  | _=>none
 | .vp cs i=>some (cs.map .d,i,[])
 | _=>none
theorem sU {H:Nat→Option Ob}{s:SV}{cs:List SV}{off:Nat}{F:Hp}(h:gq H s=some (cs,off,F)):∀ n ob,lk F n=some ob→H n=some ob:=by
 intro n ob hn;unfold gq at h
 split at h
 ·split at h <;> simp at h <;> rename_i hh <;> obtain ⟨_,_,rfl⟩:=h <;> rw [cZ] at hn <;> split at hn <;> simp at hn <;> subst_vars <;> exact hh
 ·simp at h
  obtain ⟨_,_,rfl⟩:=h;simp [bE] at hn
 ·cases h
theorem pZ {H:Nat→Option Ob}{s:SV}{cs:List SV}{off:Nat}{F:Hp}(h:gq H s=some (cs,off,F)){p:Nat→Prop}{μ:Nat→Nm}{M:Mem}{v:Value}
  (hv:Rp p μ M s v) (hS:bU p μ M (lk F) w):∃ b o,v= .pointer (some ⟨b,o+off,none⟩)∧∀ (i:Nat) (c:SV),cs[i]? =some c→∃ u,w.cell? ⟨b,o+i,none⟩=some u∧Rp p μ M c u:=by
 unfold gq at h
 split at h
 ·rename_i n off'
  have hv':=hv.rep;simp only [dy] at hv'
  split at h
  ·rename_i t cs' hh
   simp at h;obtain ⟨rfl,rfl,rfl⟩:=h;obtain ⟨_,⟨_,vs,hb,hr⟩,_⟩:=hS.one;refine ⟨(μ n).blk,0,by rw [hv'];simp,fun i c hi=> ?_⟩;obtain ⟨u,hu,hc⟩:=hr.get hi;exact ⟨u,by rw [cell_of hb];simpa using hu,hc⟩
  ·rename_i e sz len cs' hh
   simp at h;obtain ⟨rfl,rfl,rfl⟩:=h;obtain ⟨_,⟨_,_,rfl⟩ | ⟨_,vs,hb,_,_,_,_,hr⟩,_⟩:=hS.one
   ·exact ⟨(μ n).blk,0,by rw [hv'];simp,fun i c hi=>by simp at hi⟩
   refine ⟨(μ n).blk,0,by rw [hv'];simp,fun i c hi=> ?_⟩;obtain ⟨u,hu,hc⟩:=hr.get hi;refine ⟨u,?_,hc⟩;rw [cell_of hb];rw [List.getElem?_take] at hu
   split at hu
   ·simpa using hu
   ·cases hu
  ·cases h
 ·rename_i cs' i'
  simp at h;obtain ⟨rfl,rfl,rfl⟩:=h;obtain ⟨b,o,rfl,hr⟩:=(by simpa [dy] using hv.rep:∃ b o,v= .pointer (some ⟨b,o+i',none⟩)∧dB M b o cs');refine ⟨b,o,rfl,fun i c hi=> ?_⟩;rw [List.getElem?_map] at hi;obtain ⟨x,hx,rfl⟩:=Option.map_eq_some_iff.1 hi;obtain ⟨u,hu,hd⟩:=hr.get hx;exact ⟨u,hS.mem b _ u hu,Rp.cU.2 hd⟩
 ·cases h
def z7 (cs:List SV)(off:Nat):Option Nat→Option SV
 | none=>cs[off]?
 | some m=>some (.agg ((cs.drop off).take m))
def yh (cs:List SV)(off:Nat):Option Nat→Prop
 | none=>True
 | some m=>off+m≤cs.length
theorem Bh {t:TypeId}{sz:Option Nat}(ht:dV P t=some sz){cs:List SV}{off b o:Nat}{s:SV}(h:z7 cs off sz=some s)(hle:yh cs off sz){p:Nat→Prop}{μ:Nat→Nm}{M:Mem}
  (hc:∀ (i:Nat) (c:SV),cs[i]? =some c→∃ u,w.cell? ⟨b,o+i,none⟩=some u∧Rp p μ M c u):∃ v,(loadVar t ⟨b,o+off,none⟩).run P w= .ok v w∧Rp p μ M s v:=by
 cases sz with
 | none=>
  obtain ⟨u,hu,hr⟩:=hc off s h;exact ⟨u,tc ht hu,hr⟩
 | some m=>
  simp only [yh] at hle
  ·simp [z7] at h
   subst h
   have key:∀ (l:List SV) (q:Nat),(∀ (i:Nat) (c:SV),l[i]? =some c→∃ u,w.cell? ⟨b,q+i,none⟩=some u∧Rp p μ M c u)→
     ∃ vs:List Value,aU p μ M l vs∧∀ (j:Nat) (u:Value),vs[j]? =some u→w.cell? ⟨b,q+j,none⟩=some u:=by
    intro l
    induction l with
    | nil=>intro q _;exact ⟨[],aU.aR.2 rfl,fun j u h=>by simp at h⟩
    | cons c l ih=>
     intro q hq;obtain ⟨u,hu,hr⟩:=hq 0 c rfl;obtain ⟨vs,hvs,hcs⟩:=ih (q+1) fun i c' hi=>by
      have:=hq (i+1) c' (by simpa using hi)
      rwa [show q+(i+1)=q+1+i by omega] at this
     refine ⟨u::vs,aU.aD.2 ⟨u,vs,rfl,hr,hvs⟩,fun j x hj=> ?_⟩;cases j with
     | zero=>simp at hj;subst hj;simpa using hu
     | succ j=>
      have:=hcs j x (by simpa using hj)
      rwa [show q+1+j=q+(j+1) by omega] at this
   obtain ⟨vs,hvs,hcell⟩:=key ((cs.drop off).take m) (o+off) fun i c hi=>by
    rw [List.getElem?_take] at hi
    split at hi
    ·rw [List.getElem?_drop] at hi
     have:=hc (off+i) c hi
     rwa [show o+(off+i)=o+off+i by omega] at this
    ·cases hi
   have hlen:vs.length=m:=by
    rw [hvs.length,List.length_take,List.length_drop];omega
   subst hlen;exact ⟨.agg vs.toArray,td ht fun j u hj=>by rw [ej];exact hcell j u hj,Rp.eT.2 ⟨vs.toArray,rfl,by simpa using hvs⟩⟩
def cN (cs:List SV)(o:Nat):List SV→List SV
 | [c]=>cs.set o c
 | vs=>cs.take o++vs++cs.drop (o+vs.length)
def pU (cs:List Value)(o:Nat)(vs:List Value):List Value:=cs.take o++vs++cs.drop (o+vs.length)
theorem vO {α:Type}:∀ (cs:List α) (o:Nat) (c:α),o<cs.length→cs.set o c=cs.take o++[c]++cs.drop (o+1)
 | [],o,c,h=>by simp at h
 | x::xs,0,c,_=>by simp
 | x::xs,o+1,c,h=>by
  have:=vO xs o c (by simpa using h);simp [this]
theorem qf {cs vs:List SV}{o:Nat}(h:o+vs.length≤cs.length):cN cs o vs=cs.take o++vs++cs.drop (o+vs.length):=by
 unfold cN
 split
 ·rename_i c
  simp only [List.length_singleton] at h ⊢;exact vO cs o c (by omega)
 ·rfl
theorem aU.cN {p:Nat→Prop}{μ:Nat→Nm}{M:Mem}{cs ds:List SV}{vs us:List Value}{o:Nat}(h:aU p μ M cs vs)(k:aU p μ M ds us)(hl:o+ds.length≤cs.length):aU p μ M (cN cs o ds) (pU vs o us):=by
 rw [qf hl];unfold pU;rw [k.length];exact ((h.take o).append k).append (h.drop _)
theorem r7:∀ (cs:List Value) (k:Nat) (u:Value) (us:List Value),k<cs.length→pU (cs.set k u) (k+1) us=pU cs k (u::us)
 | [],k,u,us,h=>by simp at h
 | x::xs,0,u,us,_=>by simp [pU,Nat.add_comm]
 | x::xs,k+1,u,us,h=>by
  have:=r7 xs k u us (by simpa using h);simp only [pU,List.length_cons] at this ⊢;simp only [List.set_cons_succ,List.take_succ_cons,List.cons_append,List.cons.injEq,true_and];rw [show k+1+1+us.length=(k+1+us.length)+1 by omega,show k+1+(us.length+1)=(k+(us.length+1))+1 by omega,List.drop_succ_cons,List.drop_succ_cons];exact this
theorem ja {b:Nat}{t:TypeId}:∀ (us:List Value) (vs:Array Value) (w:World) (o i:Nat),w.heap[b]? =some (.cells vs t (0,0))→o+i+us.length≤vs.size→(∀ u∈us,u.oneCell'=true)→
  ∃ w',(storeCells ⟨b,o,none⟩ us i).run P w= .ok () w'∧w'.heap[b]? =some (.cells (pU vs.toList (o+i) us).toArray t (0,0))∧(∀ c,c≠b→w'.heap[c]? =w.heap[c]?)∧
   w'.heap.size=w.heap.size∧w'.os=w.os∧Tape w w'∧w'.output=w.output
 | [],vs,w,o,i,hb,_,_=>by
  refine ⟨w,by simp [storeCells],?_,fun _ _=>rfl,rfl,rfl,Tape.refl _,rfl⟩;simp [pU,hb]
 | u ::us,vs,w,o,i,hb,hl,h1=>by
  simp only [List.length_cons] at hl;have hlt:o+i<vs.size:=by omega
  have hc:w.cell? ⟨b,o+i,none⟩=some vs[o+i]:=by rw [cell_of hb,Array.getElem?_eq_getElem hlt]
  have hz:w.frozen? ⟨b,o+i,none⟩=false:=by simp [World.frozen?,hb]
  have hs:(store ⟨b,o+i,none⟩ u).run P w= .ok () (w.setCell ⟨b,o+i,none⟩ u):=by
   rw [run_store P w _ u .plain (h1 u (by simp))];simp [hc,hz]
  have hb':(w.setCell ⟨b,o+i,none⟩ u).heap[b]? =some (.cells (vs.setIfInBounds (o+i) u) t (0,0)):=by
   simp [World.setCell,Array.getElem?_modify,hb]
  obtain ⟨w',hr,h2,h3,h4,h5,h6,h7⟩:=ja us (vs.setIfInBounds (o+i) u) (w.setCell ⟨b,o+i,none⟩ u) o (i+1) hb' (by simp;omega) fun x hx=>h1 x (by simp [hx])
  refine ⟨w',?_,?_,fun c hc=>(h3 c hc).trans (Below.heap_setCell w _ u c (by simpa using hc)),by simpa using h4,h5,h6,h7⟩
  ·simp only [storeCells,ej,Sem.run_bind,hs,Result.andThen_ok,hr]
  ·rw [h2]
   congr 3
   rw [Array.toList_setIfInBounds,show o+(i+1)=o+i+1 by omega];exact r7 vs.toList (o+i) u us (by simpa using hlt)
end
end
section
def G2:Bool→Value→Value→Option Bool
 | true,.int k a,.int k' b=>if k=k' then some (a == b) else none
 | false,.bool a,.bool b=>some (a == b)
 | _,_,_=>none
def eZ:List Bool→List Value→List Value→Option Bool
 | [],[],[]=>some true
 | k::ks,x::xs,y::ys=>match G2 k x y,eZ ks xs ys with
  | some a,some b=>some (a && b)
  | _,_=>none
 | _,_,_=>none
theorem iR:∀ {ks:List Bool} {xs ys:List Value} {b:Bool},eZ ks xs ys=some b→xs.length=ks.length∧ys.length=ks.length
 | [],[],[],_,_=>⟨rfl,rfl⟩
 | [],[],_::_,_,h=>by simp [eZ] at h
 | [],_::_,_,_,h=>by simp [eZ] at h
 | _::_,[],_,_,h=>by simp [eZ] at h
 | _::_,_::_,[],_,h=>by simp [eZ] at h
 | k ::ks,x::xs,y::ys,b,h=>by
  simp only [eZ] at h
  split at h
  ·rename_i h2
   have:=iR h2;simp [this.1,this.2]
  ·cases h
theorem qH {k:Bool}{x y:Value}{b:Bool}(h:eZ [k] [x] [y]=some b):G2 k x y=some b:=by
 simp only [eZ] at h
 split at h
 ·rename_i a b' h1 h2
  simp at h h2;subst h;subst h2
  simpa using h1
 ·cases h
theorem qg:∀ {k1 k2:List Bool} {xs ys:List Value} {b:Bool},eZ (k1++k2) xs ys=some b→
  ∃ b1 b2,eZ k1 (xs.take k1.length) (ys.take k1.length)=some b1∧eZ k2 (xs.drop k1.length) (ys.drop k1.length)=some b2∧b=(b1 && b2)
 | [],k2,xs,ys,b,h=>⟨true,b,by simp [eZ],by simpa using h,by simp⟩
 | k::k1,k2,[],ys,b,h=>by simp [eZ] at h
 | k::k1,k2,x::xs,[],b,h=>by simp [eZ] at h
 | k ::k1,k2,x::xs,y::ys,b,h=>by
  simp only [List.cons_append,eZ] at h
  split at h
  ·rename_i a b' h1 h2
   simp at h;subst h;obtain ⟨b1,b2,e1,e2,rfl⟩:=qg h2;refine ⟨a && b1,b2,?_,by simpa using e2,by simp [Bool.and_assoc]⟩;simp [eZ,h1,e1]
  ·cases h
def mP (f:TypeId→Option (List Bool)):Nat→List Field→Option (List Bool)
 | _,[]=>some []
 | o,x::xs=>if x.name= "_" ∨x.offset≠o then none else match f x.type with
  | some ks=>match mP f (o+ks.length) xs with
   | some r=>some (ks++r)
   | none=>none
  | none=>none
def rep (n:Nat)(ks:List Bool):List Bool:=match n with
 | 0=>[]
 | n+1=>ks++rep n ks
def bA (P:Program):Nat→TypeId→Option (List Bool)
 | 0,_=>none
 | d +1,t=>match P.underlying t,P.info? t with
  | some .bool,some i=>if i.size=1 then some [false] else none
  | some (.int _),some i=>if i.size=1 then some [true] else none
  | some (.struct fs),some i=>if P.stoodInHeld t then none else match mP (bA P d) 0 fs.toList with
   | some ks=>if ks.length=i.size then some ks else none
   | none=>none
  | some (.array n e),some i=>match bA P d e with
   | some ks=>if n*ks.length=i.size then some (rep n ks) else none
   | none=>none
  | _,_=>none
theorem mQ (n:Nat)(ks:List Bool):(rep n ks).length=n*ks.length:=by
 induction n with
 | zero=>simp [rep]
 | succ n ih=>simp [rep,ih,Nat.add_mul,Nat.add_comm]
def valOf (P:Program)(t:TypeId)(l:List Value):Value:=
 match dV P t with
 | some (some _)=> .agg l.toArray
 | _=>l.headD undef
section
variable {P:Program} {w:World}
theorem ko {d:Nat}{t:TypeId}{ks:List Bool}(h:bA P d t=some ks):dV P t=some none∧ks.length=1∨dV P t=some (some ks.length):=by
 cases d with
 | zero=>simp [bA] at h
 | succ d=>
  simp only [bA] at h
  split at h
  ·rename_i i h1 h2
   simp at h;obtain ⟨_,rfl⟩:=h;exact .inl ⟨by simp [dV,h1,h2],rfl⟩
  ·rename_i k i h1 h2
   simp at h;obtain ⟨_,rfl⟩:=h;exact .inl ⟨by simp [dV,h1,h2],rfl⟩
  ·rename_i fs i h1 h2
   split at h
   ·cases h
   ·split at h
    ·split at h
     ·rename_i hl
      simp at h;subst h;exact .inr (by simp [dV,h1,h2,hl])
     ·cases h
    ·cases h
  ·rename_i n e i h1 h2
   split at h
   ·split at h
    ·rename_i hl
     simp at h;subst h;exact .inr (by simp [dV,h1,h2,mQ,hl])
    ·cases h
   ·cases h
  ·cases h
theorem me {d:Nat}{t:TypeId}{ks:List Bool}(h:bA P d t=some ks)(cs:List Value)(o:Nat)(hl:o+ks.length≤cs.length):
  (part t cs.toArray o).run P w= .ok (valOf P t ((cs.drop o).take ks.length)) w:=by
 rcases ko h with ⟨h1,h2⟩ | h1
 ·have ho:o<cs.length:=by omega
  have e:(List.take 1 (List.drop o cs)).headD undef=cs[o]:=by rw [List.drop_eq_getElem_cons ho];rfl
  simp only [part,Sem.run_bind,r6 h1,Result.andThen_ok,Bool.false_eq_true,if_false,valOf,h1,h2,e];simp [ho]
 ·simp only [part,Sem.run_bind,(kB h1).1,(kB h1).2,Result.andThen_ok,if_true,Sem.run_pure,valOf,h1]
  congr 2
  apply Array.ext';simp
theorem xl (d:Nat)(ih:∀ (t:TypeId) (ks:List Bool) (xs ys:List Value) (b:Bool),bA P d t=some ks→eZ ks xs ys=some b→(Op.equalIn d t (valOf P t xs) (valOf P t ys)).run P w= .ok b w)
  (xs ys:List Value):∀ (fs:List Field) (o:Nat) (ks:List Bool) (b:Bool),mP (bA P d) o fs=some ks→eZ ks (xs.drop o) (ys.drop o)=some b→o≤xs.length→o≤ys.length→
   (Op.eqFields d xs.toArray ys.toArray fs).run P w= .ok b w:=by
 intro fs
 induction fs with
 | nil=>
  intro o ks b h hb _ _;simp [mP] at h;subst h;have:=iR hb;cases hx:xs.drop o <;> cases hy:ys.drop o <;> rw [hx,hy] at hb <;> simp [eZ] at hb
  subst hb;simp [Op.eqFields]
 | cons f fs ihf=>
  intro o ks b h hb hox hoy;simp only [mP] at h
  split at h
  ·cases h
  ·rename_i hno
   simp only [not_or,ne_eq,Decidable.not_not] at hno
   split at h
   ·rename_i ks1 h1
    split at h
    ·rename_i ks2 h2
     simp at h;subst h;obtain ⟨b1,b2,e1,e2,rfl⟩:=qg hb;have l1:=iR e1;have hx:o+ks1.length≤xs.length:=by have:=l1.1;simp at this;omega
     have hy:o+ks1.length≤ys.length:=by have:=l1.2;simp at this;omega
     simp only [List.drop_drop] at e2;have hr:=ihf (o+ks1.length) ks2 b2 h2 e2 hx hy;simp only [Op.eqFields,ne_eq,hno.1,not_false_eq_true,if_true,Sem.run_bind,hno.2,me h1 xs o hx,me h1 ys o hy,Result.andThen_ok,ih f.type ks1 _ _ b1 h1 e1];cases b1
     ·simp
     ·simpa using hr
    ·cases h
   ·cases h
theorem mR {d:Nat}{t:TypeId}{ks:List Bool}(h:bA P d t=some ks):∃ i,P.info? t=some i∧i.size=ks.length:=by
 cases d with
 | zero=>simp [bA] at h
 | succ d=>
  simp only [bA] at h
  split at h
  ·rename_i i h1 h2
   simp at h;obtain ⟨h3,rfl⟩:=h;exact ⟨i,h2,h3⟩
  ·rename_i k i h1 h2
   simp at h;obtain ⟨h3,rfl⟩:=h;exact ⟨i,h2,h3⟩
  ·rename_i fs i h1 h2
   split at h
   ·cases h
   ·split at h
    ·split at h
     ·rename_i hl
      simp at h;subst h;exact ⟨i,h2,hl.symm⟩
     ·cases h
    ·cases h
  ·rename_i n e i h1 h2
   split at h
   ·split at h
    ·rename_i hl
     simp at h;subst h;exact ⟨i,h2,by rw [mQ,hl]⟩
    ·cases h
   ·cases h
  ·cases h
theorem G_ (d:Nat)(ih:∀ (t:TypeId) (ks:List Bool) (xs ys:List Value) (b:Bool),bA P d t=some ks→eZ ks xs ys=some b→(Op.equalIn d t (valOf P t xs) (valOf P t ys)).run P w= .ok b w)
  {e:TypeId} {ks:List Bool} (he:bA P d e=some ks) (xs ys:List Value):∀ (n k:Nat) (b:Bool),eZ (rep n ks) (xs.drop (k*ks.length)) (ys.drop (k*ks.length))=some b→
   (k+n)*ks.length≤xs.length→(k+n)*ks.length≤ys.length→
   (forIn (m:=Sem) (List.range' k n) ((none,()):Option Bool×Unit) fun i _=>do
    let a ← part e xs.toArray (i*ks.length)
    let c ← part e ys.toArray (i*ks.length)
    let r ← Op.equalIn d e a c
    if (!r)=true then pure (ForInStep.done (some false,())) else pure (ForInStep.yield (none,()))).run P w= .ok (if b then (none,()) else (some false,())) w:=by
 intro n
 induction n with
 | zero=>
  intro k b hb _ _;simp only [rep] at hb;have hl:=iR hb;cases hx:xs.drop (k*ks.length) <;> cases hy:ys.drop (k*ks.length) <;> rw [hx,hy] at hb <;> simp [eZ] at hb
  subst hb;simp
 | succ n ihn=>
  intro k b hb hx hy;simp only [rep] at hb;obtain ⟨b1,b2,e1,e2,rfl⟩:=qg hb;have hx':k*ks.length+ks.length≤xs.length:=by
   have:(k+(n+1))*ks.length=k*ks.length+ks.length+n*ks.length:=by rw [Nat.add_mul,Nat.add_mul];omega
   omega
  have hy':k*ks.length+ks.length≤ys.length:=by
   have:(k+(n+1))*ks.length=k*ks.length+ks.length+n*ks.length:=by rw [Nat.add_mul,Nat.add_mul];omega
   omega
  have hk:k*ks.length+ks.length=(k+1)*ks.length:=by rw [Nat.add_mul];omega
  simp only [List.drop_drop,hk] at e2;have hr:=ihn (k+1) b2 e2 (by rwa [show k+1+n=k+(n+1) by omega]) (by rwa [show k+1+n=k+(n+1) by omega]);simp only [List.range'_succ,List.forIn_cons,Sem.run_bind,me he xs _ hx',me he ys _ hy',Result.andThen_ok,ih e ks _ _ b1 he e1];cases b1
  ·simp
  ·simpa using hr
theorem sV:∀ (d:Nat) (t:TypeId) (ks:List Bool) (xs ys:List Value) (b:Bool),bA P d t=some ks→eZ ks xs ys=some b→(Op.equalIn d t (valOf P t xs) (valOf P t ys)).run P w= .ok b w:=by
 intro d
 induction d with
 | zero=>intro t ks xs ys b h;simp [bA] at h
 | succ d ih=>
  intro t ks xs ys b h hb;have hl:=iR hb;have hsz:=ko h;simp only [bA] at h
  split at h
  ·rename_i i h1 h2
   simp at h;obtain ⟨_,rfl⟩:=h;have ht:dV P t=some none:=by simp [dV,h1,h2]
   match xs,ys,hl with
   | [x],[y],_=>
    simp only [valOf,ht,List.headD_cons];have hb:=qH hb;cases x <;> cases y <;> simp [G2] at hb
    subst hb;rw [run_equalIn_bool w d t _ _ h1]
  ·rename_i k i h1 h2
   simp at h;obtain ⟨_,rfl⟩:=h;have ht:dV P t=some none:=by simp [dV,h1,h2]
   match xs,ys,hl with
   | [x],[y],_=>
    simp only [valOf,ht,List.headD_cons];have hb:=qH hb;cases x <;> cases y <;> simp [G2] at hb
    obtain ⟨rfl,rfl⟩:=hb;exact run_equalIn_int w d t _ k _ _ h1
  ·rename_i fs i h1 h2
   split at h
   ·cases h
   ·rename_i hst
    split at h
    ·rename_i ks' h3
     split at h
     ·rename_i hsize
      simp at h;subst h;have ht:dV P t=some (some i.size):=by simp [dV,h1,h2]
      simp only [valOf,ht];have hf:P.fieldsOf t=fs:=by simp [Program.fieldsOf,h1]
      rw [run_equalIn_struct w d t _ _ (by rw [hf];exact h1) (by simpa using hst),hf];exact xl d ih xs ys fs.toList 0 ks' b h3 (by simpa using hb) (by omega) (by omega)
     ·cases h
    ·cases h
  ·rename_i n e i h1 h2
   split at h
   ·rename_i ks' h3
    split at h
    ·rename_i hsize
     simp at h;subst h;have ht:dV P t=some (some i.size):=by simp [dV,h1,h2]
     simp only [valOf,ht];simp only [Op.equalIn,Sem.run_bind,run_underlying h1,Result.andThen_ok];obtain ⟨i',hi',hs'⟩:=mR h3;rw [dS hi',hs'];simp only [Result.andThen_ok];have hlen:∀ l:List Value,l.length=(rep n ks').length→n*ks'.length≤l.length:=fun l h=>by rw [h,mQ];exact Nat.le_refl _
     have:=G_ d ih h3 xs ys n 0 b (by simpa using hb) (by simpa using hlen xs hl.1) (by simpa using hlen ys hl.2);simp only [Std.Legacy.Range.forIn_eq_forIn_range',Std.Legacy.Range.size,Nat.sub_zero,Nat.add_one_sub_one,Nat.div_one,this];cases b <;> simp
    ·cases h
   ·cases h
  ·cases h
end
end
section
def G3:Bool→SV→SV→Option Bool
 | true,.d (.int k a),.d (.int k' b)=>if k=k' then some (a == b) else none
 | false,.d (.bool a),.d (.bool b)=>some (a == b)
 | _,_,_=>none
def jw:List Bool→List SV→List SV→Option Bool
 | [],[],[]=>some true
 | k::ks,x::xs,y::ys=>match G3 k x y,jw ks xs ys with
  | some a,some b=>some (a && b)
  | _,_=>none
 | _,_,_=>none
def vu (op:BinOp)(k:IntKind)(a b:Int):Option (SV×Prop):=
 match op with
 | .add=>some (.d (.int k (k.wrap (a+b))),True)
 | .sub=>some (.d (.int k (k.wrap (a - b))),True)
 | .mul=>some (.d (.int k (k.wrap (a*b))),True)
 | .quo=>some (.d (.int k (k.wrap (a.tdiv b))),b≠0)
 | .rem=>some (.d (.int k (a.tmod b)),b≠0)
 | .and=>some (.d (.int k (bits .and k a b)),True)
 | .or=>some (.d (.int k (bits .or k a b)),True)
 | .xor=>some (.d (.int k (bits .xor k a b)),True)
 | .andNot=>some (.d (.int k (bits .andNot k a b)),True)
 | .shl=>some (.d (.int k (k.wrap (a*2 ^ b.toNat))),0≤b∧b≤k.bits)
 | .shr=>some (.d (.int k (a / 2 ^ b.toNat)),0≤b∧b≤k.bits)
 | .eql=>some (.d (.bool (a == b)),True)
 | .neq=>some (.d (.bool (a != b)),True)
 | .lss=>some (.d (.bool (decide (a<b))),True)
 | .leq=>some (.d (.bool (decide (a≤b))),True)
 | .gtr=>some (.d (.bool (decide (a>b))),True)
 | .geq=>some (.d (.bool (decide (a≥b))),True)
def vv (op:BinOp)(k k':IntKind):Bool:=k == k' || op matches .shl || op matches .shr
def lU (cells:List SV):List (Nat×Nat×SV)→Option (List SV×Prop)
 | []=>some (cells,True)
 | (off,n,s)::r=>if s.cells.all SV.dO then match lU (cN cells off s.cells) r with
   | some (cs,ob)=>some (cs,s.cells.length=n∧off+n≤cells.length∧ob)
   | none=>none
  else none
def vn (E:Nat→Option SV):List (Nat×Nat×X)→Option (List (Nat×Nat×SV))
 | []=>some []
 | (o,n,x)::r=>match ev E x,vn E r with
  | some s,some ss=>some ((o,n,s)::ss)
  | _,_=>none
def e_:List SV→Option (List DV)
 | []=>some []
 | .d x::r=>match e_ r with
  | some xs=>some (x::xs)
  | none=>none
 | _::_=>none
def DT (n:Nat):SV→Option SV
 | .ptr m o=>some (.ptr m (o+n))
 | .vp cs i=>some (.vp cs (i+n))
 | _=>none
def vw (H:Nat→Option Ob)(e sz:Nat):Option SV→Option (Nat×List SV×Hp×(Nat→Prop))
 | some (.d .aJ)=>some (0,[],[],fun _=>True)
 | some (.gs n len)=>match H n with
  | some (.arr e' sz' len' cs)=>some (len,cs,[(n,.arr e' sz' len' cs)],fun _=>e'=e∧sz'=sz∧len'=len)
  | _=>none
 | _=>none
def tU (H:Nat→Option Ob):Option SV→Option (Nat×List SV×Hp×Prop)
 | some (.d .aJ)=>some (0,[],[],True)
 | some (.d (.sl m xs))=>some (m,xs.map .d,[],True)
 | some (.gs n m)=>match H n with
  | some (.arr e' sz' len' cs)=>some (m,cs,[(n,.arr e' sz' len' cs)],len'=m)
  | _=>none
 | _=>none
def kH:SV→Bool
 | .agg _=>true
 | _=>false
def iS (ks:List Bool)(agg:Bool)(key:SV):Bool:=kH key == agg && (jw ks key.cells key.cells).isSome
def iT (ks:List Bool)(agg:Bool)(key:SV):List (Nat×SV×SV)→Nat→Option (Option Nat)
 | [],_=>some none
 | e ::r,i=>if iS ks agg e.2.1 then match jw ks key.cells e.2.1.cells with
   | some true=>some (some i)
   | some false=>iT ks agg key r (i+1)
   | none=>none
  else none
def j8 (es:List (Nat×SV×SV))(c:Nat)(key v:SV):Option Nat→Ob
 | some i=> .map (es.modify i fun e=>(e.1,e.2.1,v)) c
 | none=> .map (es++[(c,key,v)]) (c+1)
def yq (es:List (Nat×SV×SV))(c:Nat):Option Nat→Ob
 | some i=> .map (es.eraseIdx i) c
 | none=> .map es c
def yt (es:List (Nat×SV×SV))(c:Nat):Option Nat→Nat
 | some i=>match es[i]? with
  | some e=>e.1
  | none=>0
 | none=>c
def qI (es:List (Nat×SV×SV))(c:Nat)(key z:SV):Option Nat→Ob
 | some _=> .map es c
 | none=> .map (es++[(c,key,z)]) (c+1)
def gB (es:List (Nat×SV×SV))(z:SV):Option Nat→SV
 | some i=>match es[i]? with
  | some e=>e.2.2
  | none=>z
 | none=>z
def kI (ok:Bool)(v:SV)(b:Bool):SV:=if ok then .dm [v,.d (.bool b)] else v
def dH (E : Nat→Option SV)(H:Nat→Option Ob)(k:Nat)(own:Bool):SO→Option l6
  | .mv x=>match ev E x with
    | some s=>some ⟨s,[],[],0,True⟩
    | none=>none
  | .pick c a b=>match ev E c with
    | some (.d (.bool true))=>match ev E a with
      | some s=>some ⟨s,[],[],0,True⟩
      | none=>none
    | some (.d (.bool false))=>match ev E b with
      | some s=>some ⟨s,[],[],0,True⟩
      | none=>none
    | _=>none
  | .alloc t z=>some ⟨.ptr k 0,[],[(k,.box t z)],1,True⟩
  | .box t x=>match ev E x with
    | some s=>if s.cells.all SV.dO then some ⟨.ptr k 0,[],[(k,.box t s.cells)],1,True⟩ else none
    | none=>none
  | .load sz x=>match ev E x with
    | some s=>match gq H s with
      | some (cs,off,F)=>match z7 cs off sz with
        | some v=>some ⟨v,F,F,0,yh cs off sz⟩
        | none=>none
      | none=>none
    | none=>none
  | .store sz x v=>match ev E x,ev E v with
    | some (.ptr n off),some s=>if s.cells.all SV.dO then match H n with
        | some (.box t cs)=>some ⟨.any,[(n,.box t cs)],[(n,.box t (cN cs off s.cells))],0,s.cells.length=sz∧off+sz≤cs.length⟩
        | some (.arr e z l cs)=>some ⟨.any,[(n,.arr e z l cs)],[(n,.arr e z l (cN cs off s.cells))],0,s.cells.length=sz∧off+sz≤cs.length∧0<sz⟩
        | _=>none
      else none
    | _,_=>none
  | .aX off x=>match ev E x with
    | some s=>match DT off s with
      | some v=>some ⟨v,[],[],0,True⟩
      | none=>none
    | none=>none
  | .Cc len sz x i=>match ev E x,ev E i with
    | some s,some (.d (.int _ m))=>match DT (m.toNat*sz) s with
      | some v=>some ⟨v,[],[],0,0≤m∧m<(len:Int)⟩
      | none=>none
    | _,_=>none
  | .eD sz x i=>match ev E x,ev E i with
    | some (.d (.sl n cs)),some (.d (.int _ m))=>some ⟨.vp cs (m.toNat*sz),[],[],0,0≤m∧m<(n:Int)⟩
    | some (.gs n len),some (.d (.int _ m))=>some ⟨.ptr n (m.toNat*sz),[],[],0,0≤m∧m<(len:Int)⟩
    | some (.bs n off len),some (.d (.int _ m))=>some ⟨.ptr n (off+m.toNat*sz),[],[],0,0≤m∧m<(len:Int)⟩
    | _,_=>none
  | .field off sz x=>match ev E x with
    | some (.agg cs)=>match z7 cs off sz with
      | some v=>some ⟨v,[],[],0,yh cs off sz⟩
      | none=>none
    | _=>none
  | .index len sz agg x i=>match ev E x,ev E i with
    | some (.agg cs),some (.d (.int _ m))=>match z7 cs (m.toNat*sz) (if agg then some sz else none) with
      | some v=>some ⟨v,[],[],0,(0≤m∧m<(len:Int))∧yh cs (m.toNat*sz) (if agg then some sz else none)⟩
      | none=>none
    | _,_=>none
  | .bin op x y=>match ev E x,ev E y with
    | some (.d (.int k a)),some (.d (.int k' b))=>if vv op k k' then match vu op k a b with
        | some (v,ob)=>some ⟨v,[],[],0,ob⟩
        | none=>none
      else none
    | _,_=>none
  | .eqv neg ks x y=>match ev E x,ev E y with
    | some (.agg s),some (.agg s')=>match jw ks s s' with
      | some b=>some ⟨.d (.bool (bif neg then !b else b)),[],[],0,True⟩
      | none=>none
    | _,_=>none
  | .qC neg x y=>match ev E x,ev E y with
    | some (.d (.bool s)),some (.d (.bool s'))=>some ⟨.d (.bool (bif neg then !(s == s') else s == s')),[],[],0,True⟩
    | _,_=>none
  | .kG neg kd x=>match kd,ev E x with
    | 0,some (.d .j0) | 1,some (.d .jj) | 2,some (.d .gL) | 3,some (.d .aJ)=>some ⟨.d (.bool !neg),[],[],0,True⟩
    | 0,some (.ptr _ _) | 2,some (.fn _ _ _)=>some ⟨.d (.bool neg),[],[],0,True⟩
    | 1,some (.mp n)=>match H n with
      | some (.map es c)=>some ⟨.d (.bool neg),[(n,.map es c)],[(n,.map es c)],0,True⟩
      | some .gp=>some ⟨.d (.bool !neg),[(n,.gp)],[(n,.gp)],0,True⟩
      | _=>none
    | 0,some (.vp _ _)=>some ⟨.d (.bool neg),[],[],0,True⟩
    | 3,some (.gs _ n)=>some ⟨.d (.bool neg),[],[],0,n≠0⟩
    | _,_=>none
  | .not x=>match ev E x with
    | some (.d (.bool b))=>some ⟨.d (.bool !b),[],[],0,True⟩
    | _=>none
  | .conv k x=>match ev E x with
    | some (.d (.int _ n))=>some ⟨.d (.int k (k.wrap n)),[],[],0,True⟩
    | _=>none
  | .ext i x=>match ev E x with
    | some (.dm cs)=>match cs[i]? with
      | some v=>some ⟨v,[],[],0,True⟩
      | none=>none
    | _=>none
  | .dR x=>match ev E x with
    | some (.ptr n o)=>some ⟨.ptr n o,[],[],0,True⟩
    | some (.vp cs i)=>some ⟨.vp cs i,[],[],0,True⟩
    | _=>none
  | .fL z parts=>match vn E parts with
    | some ps=>match lU z ps with
      | some (cs,ob)=>some ⟨.agg cs,[],[],0,ob⟩
      | none=>none
    | none=>none
  | .lB e sz len z parts=>match vn E parts with
    | some ps=>match lU z ps with
      | some (cs,ob)=>if cs.all SV.dO then
          if own || len == 0 then some ⟨.gs k len,[],[(k,.arr e sz len cs)],1,ob⟩
          else match e_ cs with
            | some ds=>some ⟨.d (.sl len ds),[],[],0,ob⟩
            | none=>some ⟨.gs k len,[],[(k,.arr e sz len cs)],1,ob⟩
        else none
      | none=>none
    | none=>none
  | .slc sz x lo hi=>match ev E x with
    | some (.d (.sl n cs))=>match (match lo with | some l=>ev E l | none=>some (.d (.int .i64 0))),(match hi with | some h=>ev E h | none=>some (.d (.int .i64 n))) with
      | some (.d (.int _ l)),some (.d (.int _ h))=>some ⟨.d (.sl (h.toNat - l.toNat) ((cs.drop (l.toNat*sz)).take ((h.toNat - l.toNat)*sz))),[],[],0,0≤l∧l≤h∧h≤(n:Int)∧cs.length=n*sz⟩
      | _,_=>none
    | some (.d .aJ)=>match (match lo with | some l=>ev E l | none=>some (.d (.int .i64 0))),(match hi with | some h=>ev E h | none=>some (.d (.int .i64 0))) with
      | some (.d (.int _ l)),some (.d (.int _ h))=>some ⟨.d .aJ,[],[],0,l=0∧h=0⟩
      | _,_=>none
    | some (.gs n len)=>match H n with
      | some (.arr e z len' cs)=>match lo,(match hi with | some h=>ev E h | none=>some (.d (.int .i64 len))) with
        | none,some (.d (.int _ h))=>some ⟨.gs n h.toNat,[(n,.arr e z len' cs)],[(n,.arr e z len' cs)],0,0≤h∧h≤(len:Int)∧len'=len⟩
        | some l,some (.d (.int _ h))=>match ev E l with
          | some (.d (.int _ l))=>some ⟨.bs n (l.toNat*sz) (h.toNat - l.toNat),[(n,.arr e z len' cs)],[(n,.arr e z len' cs)],0,0≤l∧l<h∧h≤(len:Int)∧len'=len⟩
          | _=>none
        | _,_=>none
      | _=>none
    | _=>none
  | .J5 n sz x lo hi=>match ev E x,(match lo with | some l=>ev E l | none=>some (.d (.int .i64 0))),(match hi with | some h=>ev E h | none=>some (.d (.int .i64 n))) with
    | some (.ptr m off),some (.d (.int _ l)),some (.d (.int _ h))=>some ⟨.bs m (off+l.toNat*sz) (h.toNat - l.toNat),[],[],0,0≤l∧l≤h∧h≤(n:Int)⟩
    | _,_,_=>none
  | .J6 x h m=>match ev E x,ev E h,ev E m with
    | some (.d (.sl n cs)),some (.d (.int _ h)),some (.d (.int _ m))=>some ⟨.d (.sl n cs),[],[],0,h=(n:Int)∧m=(n:Int)⟩
    | some (.d .aJ),some (.d (.int _ h)),some (.d (.int _ m))=>some ⟨.d .aJ,[],[],0,h=0∧m=0⟩
    | _,_,_=>none
  | .lens x=>match ev E x with
    | some (.d (.str s))=>some ⟨.d (.int .i64 s.length),[],[],0,True⟩
    | _=>none
  | .dQ x i=>match ev E x,ev E i with
    | some (.d (.str s)),some (.d (.int _ n))=>some ⟨.d (.int .u8 ((s.getD n.toNat 0:Nat):Int)),[],[],0,0≤n∧n<(s.length:Int)⟩
    | _,_=>none
  | .neg x=>match ev E x with
    | some (.d (.int k n))=>some ⟨.d (.int k (k.wrap (-n))),[],[],0,True⟩
    | _=>none
  | .len x=>match ev E x with
    | some (.d (.sl n _))=>some ⟨.d (.int .i64 n),[],[],0,True⟩
    | some (.d .aJ)=>some ⟨.d (.int .i64 0),[],[],0,True⟩
    | some (.gs _ n)=>some ⟨.d (.int .i64 n),[],[],0,True⟩
    | some (.bs _ _ n)=>some ⟨.d (.int .i64 n),[],[],0,True⟩
    | _=>none
  | .J7 x=>match ev E x with
    | some (.d .jj)=>some ⟨.d (.int .i64 0),[],[],0,True⟩
    | some (.mp n)=>match H n with
      | some (.map es c)=>some ⟨.d (.int .i64 es.length),[(n,.map es c)],[(n,.map es c)],0,True⟩
      | some .gp=>some ⟨.d (.int .i64 0),[(n,.gp)],[(n,.gp)],0,True⟩
      | _=>none
    | _=>none
  | .look ks agg z m i ok=>match ev E m,ev E i with
    | some (.d .jj),some key=>if iS ks agg key then some ⟨kI ok z false,[],[],0,True⟩ else none
    | some (.mp n),some key=>match H n with
      | some (.map es c)=>if iS ks agg key then match iT ks agg key es 0 with
          | some r=>some ⟨kI ok (gB es z r) r.isSome,[(n,.map es c)],[(n,.map es c)],0,True⟩
          | none=>none
        else none
      | some .gp=>if iS ks agg key then some ⟨kI ok z false,[(n,.gp)],[(n,.gp)],0,True⟩ else none
      | _=>none
    | _,_=>none
  | .qF ks agg m i v=>match ev E m,ev E i,ev E v with
    | some (.mp n),some key,some s=>match H n with
      | some (.map es c)=>if iS ks agg key then match iT ks agg key es 0 with
          | some r=>some ⟨.any,[(n,.map es c)],[(n,j8 es c key s r)],0,True⟩
          | none=>none
        else none
      | _=>none
    | _,_,_=>none
  | .sR ks agg z m i=>match ev E m,ev E i with
    | some (.mp n),some key=>match H n with
      | some (.map es c)=>if iS ks agg key then match iT ks agg key es 0 with
          | some r=>some ⟨.dm [gB es z r,.d (.int .i64 (yt es c r))],[(n,.map es c)],[(n,qI es c key z r)],0,True⟩
          | none=>none
        else none
      | _=>none
    | _,_=>none
  | .sS m s x=>match ev E m,ev E s,ev E x with
    | some (.mp n),some (.d (.int _ b)),some v=>match H n with
      | some (.map es c)=>match es.findIdx? (fun e=>(e.1:Int) == b) with
        | some j=>some ⟨.any,[(n,.map es c)],[(n,.map (es.modify j fun e=>(e.1,e.2.1,v)) c)],0,True⟩
        | none=>none
      | _=>none
    | _,_,_=>none
  | .LK sz z x=>match ev E x with
    | some (.bs n off len)=>match H n with
      | some (.arr e z' l cs)=>some ⟨.any,[(n,.arr e z' l cs)],[(n,.arr e z' l (cN cs off ((List.replicate len z).flatten)))],0,0<len∧off+len*sz≤cs.length⟩
      | _=>none
    | _=>none
  | .G9 ks agg m i=>match ev E m,ev E i with
    | some (.d .jj),some key=>if iS ks agg key then some ⟨.any,[],[],0,True⟩ else none
    | some (.mp n),some key=>match H n with
      | some (.map es c)=>if iS ks agg key then match iT ks agg key es 0 with
          | some r=>some ⟨.any,[(n,.map es c)],[(n,yq es c r)],0,True⟩
          | none=>none
        else none
      | some .gp=>if iS ks agg key then some ⟨.any,[(n,.gp)],[(n,.gp)],0,True⟩ else none
      | _=>none
    | _,_=>none
  | .mO m=>match ev E m with
    | some (.d .jj)=>some ⟨.it k,[],[(k,.iter none 0 [] 0)],1,True⟩
    | some (.mp n)=>match H n with
      | some (.map es c)=>some ⟨.it k,[(n,.map es c)],[(n,.map es c),(k,.iter (some n) c [] c)],1,True⟩
      | some .gp=>some ⟨.it k,[(n,.gp)],[(n,.gp),(k,.iter none 0 [] 0)],1,True⟩
      | _=>none
    | _=>none
  | .oo x =>match ev E x with
    | some (.it n)=>match H n with
      | some (.iter (some m) since seen st)=>match H m with
        | some (.map es c)=>match seen.getLast? with
          | some stamp=>match es.find? (fun e=>e.1 == stamp) with
            | some e=>some ⟨.dm [e.2.1,e.2.2],[(n,.iter (some m) since seen st),(m,.map es c)],[(n,.iter (some m) since seen st),(m,.map es c)],0,c=st∧n≠m⟩
            | none=>none
          | none=>none
        | _=>none
      | _=>none
    | _=>none
  | .mx x y=>match ev E x,ev E y with
    | some (.d (.int k a)),some (.d (.int _ b))=>some ⟨.d (.int k (if b>a then b else a)),[],[],0,True⟩
    | _,_=>none
  | .mn x y=>match ev E x,ev E y with
    | some (.d (.int k a)),some (.d (.int _ b))=>some ⟨.d (.int k (if b<a then b else a)),[],[],0,True⟩
    | _,_=>none
  | .sQ f first cap=>match pY E first,pY E cap with
    | some a,some c=>some ⟨.fn f a c,[],[],0,True⟩
    | _,_=>none
  | .zZ=>some ⟨.mp k,[],[(k,.map [] 0)],1,True⟩
  | .copy e sz d x=>match ev E d,ev E x with
    | some (.bs n off len),some (.bs m off' len')=>match H n,H m with
      | some (.box t cs),some (.box t' cs')=>if cs'.all SV.dO then some ⟨.d (.int .i64 len),[(n,.box t cs),(m,.box t' cs')],[(n,.box t (cN cs off ((cs'.drop off').take (len*sz)))),(m,.box t' cs')],0,n≠m∧0<len∧off+len*sz≤cs.length∧off'+len*sz≤cs'.length∧len=len'⟩ else none
      | _,_=>none
    | _,_=>none
  | .app e sz bytes s x=>match vw H e sz (ev E s),tU H (ev E x) with
    | some (n,cs,F,ob),some (m,news,F2,He)=>
      if news.all SV.dO then some ⟨.gs k (n+m),F++F2,(k,.arr e sz (n+m) (cs++news))::F2,1,ob m∧He∧n+m≤9223372036854775807∧(n+m)*bytes≤140737488355328∧news.length=m*sz∧((F.map (·.1)).all fun a=>(F2.map (·.1)).all fun b=>a != b)=true⟩
      else none
    | _,_=>none
  | .Nq e sz bytes z len cap=>match ev E len,ev E cap with
    | some (.d (.int _ l)),some (.d (.int _ c))=>some ⟨.gs k l.toNat,[],[(k,.arr e sz l.toNat ((List.replicate l.toNat z).flatten))],1,0≤l∧l≤c∧c≤9223372036854775807∧bytes*c≤281474976710656⟩
    | _,_=>none
  | _=>none
def OB (P:Program)(t:TypeId):Option (Nat×TypeId):=match P.underlying t with
 | some (.slice e)=>match P.info? e with
  | some i=>some (i.size,e)
  | none=>none
 | _=>none
def lV (pl:Nat→Option (Nat×Nat)):List (Nat×Operand)→Option (List (Nat×Nat×X))
 | []=>some []
 | (i,o)::r=>match pl i,cX o,lV pl r with
  | some (off,n),some x,some r'=>some ((off,n,x)::r')
  | _,_,_=>none
def qJ (P:Program)(fs:Array Field)(i:Nat):Option (Nat×Nat):=match fs[i]? with
 | some f=>match P.info? f.type with
  | some j=>some (f.offset,j.size)
  | none=>none
 | none=>none
def lW:Option Operand→Option (Option X)
 | none=>some none
 | some o=>(cX o).map some
def DU (sz:Option Nat)(n:Nat):Bool:=match sz with
 | none=>true
 | some m=>m == n
def isEq:BinOp→Bool
 | .eql | .neq=>true
 | _=>false
def eG:BinOp→Bool
 | .neq=>true
 | _=>false
def yu (P:Program)(t:TypeId)(y:Operand):Option Nat:=match P.underlying t,y with
 | some (.pointer _),.const (.pointer none)=>some 0
 | some (.map _ _),.const (.map none)=>some 1
 | some (.func _ _ _),.const .nilFunc=>some 2
 | some (.slice _),.const (.slice none 0 0)=>some 3
 | _,_=>none
def vP (P:Program)(t:TypeId):Option SV:=match P.info? t with
 | some i=>match i.zero with
  | some z=>cV z
  | none=>none
 | none=>none
def nU (P:Program)(t:TypeId):Bool:=match dV P t with
 | some (some _)=>true
 | _=>false
def cO (P :Program):Op→Option SO
  | .move x | .assign x=>(cX x).map .mv
  | .pick c a b=>match cX c,cX a,cX b with
    | some c,some a,some b=>some (.pick c a b)
    | _,_,_=>none
  | .alloc t=>(gi P t).map (.alloc t)
  | .box t x=>(cX x).map (.box t)
  | .load t x=>match cX x,dV P t with
    | some y,some sz=>some (.load sz y)
    | _,_=>none
  | .store t x v=>match cX x,cX v,P.info? t with
    | some x,some v,some i=>some (.store i.size x v)
    | _,_,_=>none
  | .nilCheck x=>(cX x).map .dR
  | .binOp op t x y _=>
    if isEq op then
      match P.underlying t with
      | some (.int _)=>match cX x,cX y with
        | some x,some y=>some (.bin op x y)
        | _,_=>none
      | some .bool=>match cX x,cX y with
        | some x,some y=>some (.qC (eG op) x y)
        | _,_=>none
      | some (.struct _) | some (.array _ _)=>match cX x,cX y,bA P 10000 t with
        | some x,some y,some ks=>if P.eqGuardType P.depth t then none else some (.eqv (eG op) ks x y)
        | _,_,_=>none
      | _=>match yu P t y,cX x with
        | some kd,some x=>some (.kG (eG op) kd x)
        | _,_=>none
    else match cX x,cX y with
      | some x,some y=>some (.bin op x y)
      | _,_=>none
  | .unOp .not _ x=>(cX x).map .not
  | .unOp .neg _ x=>(cX x).map .neg
  | .convert src dst x=>match P.underlying src,P.underlying dst,cX x with
    | some (.int _),some (.int k),some x=>some (.conv k x)
    | _,_,_=>none
  | .fieldAddr s x f=>match P.underlying s,cX x with
    | some (.struct fs),some x=>match fs[f]? with
      | some f=>match P.info? f.type with
        | some i=>if i.size=0 then none else some (.aX f.offset x)
        | none=>none
      | none=>none
    | _,_=>none
  | .field t x f=>match P.underlying t,cX x with
    | some (.struct fs),some x=>match fs[f]? with
      | some f=>match dV P f.type with
        | some sz=>some (.field f.offset sz x)
        | none=>none
      | none=>none
    | _,_=>none
  | .indexAddr t x i=>match P.underlying t,cX x,cX i with
    | some (.array n e),some x,some i=>match P.info? e with
      | some j=>some (.Cc n j.size x i)
      | none=>none
    | some (.slice e),some x,some i=>match P.info? e with
      | some j=>some (.eD j.size x i)
      | none=>none
    | _,_,_=>none
  | .index t x i=>match P.underlying t,cX x,cX i with
    | some (.array n e),some x,some i=>match P.info? e,dV P e with
      | some j,some sz=>if DU sz j.size then some (.index n j.size sz.isSome x i) else none
      | _,_=>none
    | some .string,some x,some i=>some (.dQ x i)
    | _,_,_=>none
  | .extract x i=>(cX x).map (.ext i)
  | .build t parts=>match P.underlying t,gi P t with
    | some (.struct fs),some z=>if fs.all (fun f=>(P.info? f.type).isSome) then (lV (qJ P fs) parts.toList).map (.fL z) else none
    | some (.array _ e),some z=>match P.info? e with
      | some j=>(lV (fun i=>some (i*j.size,j.size)) parts.toList).map (.fL z)
      | none=>none
    | _,_=>none
  | .buildSlice t len parts=>match P.underlying t with
    | some (.slice e)=>match P.info? e,gi P e with
      | some j,some z=>if (len*j.size≤16777216∧len≤16777216)∧z.length=j.size then (lV (fun i=>some (i*j.size,j.size)) parts.toList).map (.lB e j.size len ((List.replicate len z).flatten)) else none
      | _,_=>none
    | _=>none
  | .slice t x none (some h) (some m)=>match P.underlying t,cX x,cX h,cX m with
    | some (.slice e),some x,some h,some m=>match P.info? e with
      | some _=>some (.J6 x h m)
      | none=>none
    | _,_,_,_=>none
  | .slice t x lo hi none=>match P.underlying t,cX x,lW lo,lW hi with
    | some (.slice e),some x,some lo,some hi=>match P.info? e with
      | some j=>some (.slc j.size x lo hi)
      | none=>none
    | some (.array n e),some x,some lo,some hi=>match P.info? e with
      | some j=>some (.J5 n j.size x lo hi)
      | none=>none
    | _,_,_,_=>none
  | .makeFunc f first cap=>match DJ first.toList,DJ cap.toList with
    | some a,some c=>some (.sQ f a c)
    | _,_=>none
  | .makeMap t none=>some .zZ
  | .makeSlice t l c=>match P.underlying t,cX l,cX c with
    | some (.slice e),some l,some c=>match P.info? e,gi P e with
      | some i,some z=>if z.length=i.size∧0<i.size then some (.Nq e i.size i.bytes z l c) else none
      | _,_=>none
    | _,_,_=>none
  | .lookup t m i ok=>match P.underlying t,cX m,cX i with
    | some (.map kt et),some m,some i=>match bA P 10000 kt,vP P et with
      | some ks,some z=>some (.look ks (nU P kt) z m i ok)
      | _,_=>none
    | _,_,_=>none
  | .mapUpdate t m i v | .insert t m i v=>match P.underlying t,cX m,cX i,cX v with
    | some (.map kt et),some m,some i,some v=>match bA P 10000 kt with
      | some ks=>some (.qF ks (nU P kt) m i v)
      | none=>none
    | _,_,_,_=>none
  | .mapEntry t m i=>match P.underlying t,cX m,cX i with
    | some (.map kt et),some m,some i=>match bA P 10000 kt,vP P et with
      | some ks,some z=>some (.sR ks (nU P kt) z m i)
      | _,_=>none
    | _,_,_=>none
  | .entryStore t m s x=>match cX m,cX s,cX x with
    | some m,some s,some x=>some (.sS m s x)
    | _,_,_=>none
  | .range t m=>match P.underlying t,cX m with
    | some (.map _ _),some m=>some (.mO m)
    | _,_=>none
  | .next it s=>if s then none else (cX it).map .lH
  | .entry it=>(cX it).map .oo
  | .call c=>match c.callee,c.args.toList,c.argTypes.toList with
    | .builtin .len,[x],[t]=>match P.underlying t,cX x with
      | some (.slice _),some x=>some (.len x)
      | some (.map _ _),some x=>some (.J7 x)
      | some .string,some x=>some (.lens x)
      | _,_=>none
    | .builtin .clear,[x],[t]=>match P.underlying t,cX x with
      | some (.slice e),some x=>match P.info? e,gi P e with
        | some i,some z=>if z.length=i.size∧0<i.size then some (.LK i.size z x) else none
        | _,_=>none
      | _,_=>none
    | .builtin .copy,[x,y],[t,_]=>match P.underlying t,cX x,cX y with
      | some (.slice e),some x,some y=>match P.info? e with
        | some i=>some (.copy e i.size x y)
        | none=>none
      | _,_,_=>none
    | .builtin .delete,[m,i],[t,t']=>match P.underlying t,cX m,cX i with
      | some (.map kt et),some m,some i=>match bA P 10000 kt with
        | some ks=>some (.G9 ks (nU P kt) m i)
        | none=>none
      | _,_,_=>none
    | .builtin .append,[x,y],[t,t']=>if t=t' then match P.underlying t,cX x,cX y with
        | some (.slice e),some x,some y=>match P.info? e,gi P e with
          | some i,some z=>if z.length=i.size∧0<i.size then some (.app e i.size i.bytes x y) else none
          | _,_=>none
        | _,_,_=>none
      else none
    | .value f,args,_=>match cX f,DJ args with
      | some f,some args=>some (.call f args)
      | _,_=>none
    | .builtin .max,[x,y],_=>match cX x,cX y with
      | some x,some y=>some (.mx x y)
      | _,_=>none
    | .builtin .min,[x,y],_=>match cX x,cX y with
      | some x,some y=>some (.mn x y)
      | _,_=>none
    | _,_,_=>none
  | _=>none
end
end Go.Sl
