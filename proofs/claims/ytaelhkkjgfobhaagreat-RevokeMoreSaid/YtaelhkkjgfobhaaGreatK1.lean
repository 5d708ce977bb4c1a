/-
 Draws only grow.
-/
import Derived.WalkKit
import Derived.Orders
import Derived.KernelRfl
import Derived.OrdersIn
set_option linter.unusedSimpArgs false
set_option linter.unusedVariables false
set_option linter.unusedSectionVars false
namespace Go.Sl
section
theorem rI {P:Program}{w:World}{at_:Addr}{u:TypeId}{k:Addr}{v:Value}{b:Bool}{r:World×List Addr}(h:w.viewStore P at_ u k v b= .ok r):r.1.drawn=w.drawn:=by
 unfold World.viewStore at h
 simp only [bind,Except.bind,pure,Except.pure,throw,throwThe,MonadExceptOf.throw] at h
 repeat' split at h
 all_goals first
  | (cases h;done)
  | (injection h with h;subst h;rfl)
theorem sD {P:Program}{w:World}{a:Addr}{v:Value}{b:Bool}{r:World×List Addr}(h:w.farStore P a v b= .ok r):r.1.drawn=w.drawn:=by
 unfold World.farStore at h
 split at h
 ·split at h
  ·rename_i hr
   injection h with h
   subst h
   exact rI hr
  ·cases h
 ·cases h
theorem qi {α:Type}:∀ (a:Ask α) (w:World),w.drawn≤(w.ask a).2.drawn
 | .done a,w=>by simp [World.ask]
 | .ask what range k,w=>by
  simp only [World.ask]
  split
  ·exact qi _ w
  ·exact Nat.le_trans (Nat.le_succ _) (qi _ { w with drawn:=w.drawn+1})
theorem Am (w:World)(c:Sys):w.drawn≤(w.sys c).2.drawn:=by
 unfold World.sys
 have:=qi (Kernel.perform c w.os) w
 split
 ·exact Nat.le_refl _
 ·rename_i h
  rw [h] at this
  exact this
theorem An {P:Program}{α:Type}(s:Sem α):∀ (w:World) (v:α) (w':World),s.run P w= .ok v w'→w.drawn≤w'.drawn:=by
 induction s with
 | pure a=>intro w v w' h;simp only [Sem.run] at h;injection h with _ h;subst h;exact Nat.le_refl _
 | load m a k ih=>
  intro w v w' h
  simp only [Sem.run] at h
  split at h
  ·exact ih _ _ _ _ h
  ·split at h
   ·exact ih _ _ _ _ h
   ·cases h
 | store m a x k ih=>
  intro w v w' h
  have fin:(match w.cell? a with
    | some _=>if w.frozen? a then Result.halt (.unsupported (.unsafePointer "a write to bytes that a string shares")) w else k.run P (w.setCell a x)
    | none=>match w.farStore P a x (m == Mode.atomic) with
     | .ok (w,_)=>k.run P w
     | .error h=> .halt h w)= .ok v w'→w.drawn≤w'.drawn:=by
   intro h
   split at h
   ·split at h
    ·cases h
    ·exact ih (w.setCell a x) v w' h
   ·split at h
    ·rename_i w2 l hf
     have:=sD hf
     have h2:=ih w2 v w' h
     simp only at this
     omega
    ·cases h
  cases x <;> first
   | (simp only [Sem.run] at h;exact fin h)
   | (simp only [Sem.run] at h;cases h;done)
 | new o k ih=>intro w v w' h;simp only [Sem.run] at h;exact ih _ { w with heap:=w.heap.push o} v w' h
 | shape r k ih=>intro w v w' h;simp only [Sem.run] at h;exact ih _ _ _ _ h
 | freeze a n k ih=>
  intro w v w' h
  simp only [Sem.run] at h
  have:=ih _ _ _ h
  have e:(w.freeze a n).drawn=w.drawn:=by unfold World.freeze;split <;> rfl
  rwa [e] at this
 | frozen a k ih=>intro w v w' h;simp only [Sem.run] at h;exact ih _ _ _ _ h
 | getObj r k ih=>
  intro w v w' h
  simp only [Sem.run] at h
  split at h
  ·cases h
  ·exact ih _ _ _ _ h
  ·cases h
 | setObj r o k ih=>
  intro w v w' h
  simp only [Sem.run] at h
  split at h
  ·cases h
  ·exact ih { w with heap:=w.heap.setIfInBounds r o} v w' h
  ·cases h
 | choose q k ih=>
  intro w v w' h
  simp only [Sem.run] at h
  split at h
  ·exact ih _ _ _ _ h
  ·exact Nat.le_trans (Nat.le_succ _) (ih _ _ _ _ h)
 | sys c k ih=>
  intro w v w' h
  simp only [Sem.run] at h
  exact Nat.le_trans (Am w c) (ih _ _ _ _ h)
 | program k ih=>intro w v w' h;simp only [Sem.run] at h;exact ih _ _ _ _ h
 | mark m k ih=>intro w v w' h;simp only [Sem.run] at h;exact ih _ _ _ h
 | halt h'=>intro w v w' h;simp only [Sem.run] at h;cases h
end
section
def wM:List (Nat×List (IntKind×Int)):=[]
end
section
inductive DV where
 | int (k:IntKind) (n:Int)
 | bool (b:Bool)
 | jt | jl | fS | aU
 | sl (n:Nat) (cs:List DV)
 | str (s:List Nat)
 deriving Inhabited
abbrev Mem:=Nat→Nat→Option Value
mutual
def bQ (M:Mem):DV→Value→Prop
 | .int k n,v=>v= .int k n
 | .bool b,v=>v= .bool b
 | .jt,v=>v= .pointer none
 | .jl,v=>v= .map none
 | .fS,v=>v= .nilFunc
 | .aU,v=>v= .slice none 0 0
 | .str s,v=>∃ b:ByteArray,v= .string b∧b.data.toList.map UInt8.toNat=s
 | .sl n cs,v=>∃ A c,v= .slice A n c∧n≤c∧(n=0→cs=[])∧(0<n→∃ b o,A=some ⟨b,o,none⟩∧cQ M b o cs)
def cQ (M:Mem)(b:Nat):Nat→List DV→Prop
 | _,[]=>True
 | o,c::cs=>(∃ u,M b o=some u∧bQ M c u)∧cQ M b (o+1) cs
end
inductive SV where
 | d (x:DV)
 | ptr (n off:Nat)
 | gs (n len:Nat)
 | bs (n off len:Nat)
 | vp (cs:List DV) (i:Nat)
 | mp (n:Nat)
 | it (n:Nat)
 | yl (n:Nat)
 | fn (f:Fn) (first cap:List SV)
 | agg (cs:List SV)
 | dM (cs:List SV)
 | any
 deriving Inhabited
structure Nm where
 blk:Nat
 cap:Nat
 live:Bool:=true
mutual
def cI (μ:Nat→Nm)(M:Mem):SV→Value→Prop
 | .d x,v=>bQ M x v
 | .ptr n off,v=>v= .pointer (some ⟨(μ n).blk,off,none⟩)
 | .gs n len,v=>((μ n).live=true∧v= .slice (some ⟨(μ n).blk,0,none⟩) len (μ n).cap)∨((μ n).live=false∧len=0∧∃ A,v= .slice A 0 0)
 | .vp cs i,v=>∃ b o,v= .pointer (some ⟨b,o+i,none⟩)∧cQ M b o cs
 | .bs n off len,v=>∃ A c,v= .slice (some A) len c∧len≤c∧(len≠0→A=⟨(μ n).blk,off,none⟩)
 | .mp n,v=>((μ n).live=true∧v= .map (some (μ n).blk))∨((μ n).live=false∧v= .map none)
 | .it n,v=>v= .pointer (some ⟨(μ n).blk,0,none⟩)
 | .yl n,v=>v= .func (.yield (μ n).blk) #[] #[]
 | .fn f a c,v=>∃ as cs,v= .func f as cs∧bY μ M a as.toList∧bY μ M c cs.toList
 | .agg cs,v=>∃ vs,v= .agg vs∧bY μ M cs vs.toList
 | .dM cs,v=>∃ vs,v= .tuple vs∧bY μ M cs vs.toList
 | .any,_=>True
def bY (μ:Nat→Nm)(M:Mem):List SV→List Value→Prop
 | [],vs=>vs=[]
 | c::cs,vs=>∃ u us,vs=u::us∧cI μ M c u∧bY μ M cs us
end
def Mem.le (M M':Mem):Prop:=∀ b o v,M b o=some v→M' b o=some v
theorem Mem.le_refl (M:Mem):Mem.le M M:=fun _ _ _ h=>h
theorem Mem.le_trans {A B C:Mem}(h:Mem.le A B)(k:Mem.le B C):Mem.le A C:=fun b o v x=>k b o v (h b o v x)
mutual
theorem bQ.mono {M M':Mem}(h:Mem.le M M'):∀ (x:DV) (v:Value),bQ M x v→bQ M' x v
 | .int k n,v,hr=>by simpa [bQ] using hr
 | .bool b,v,hr=>by simpa [bQ] using hr
 | .jt,v,hr=>by simpa [bQ] using hr
 | .jl,v,hr=>by simpa [bQ] using hr
 | .fS,v,hr=>by simpa [bQ] using hr
 | .aU,v,hr=>by simpa [bQ] using hr
 | .str s,v,hr=>by simpa [bQ] using hr
 | .sl n cs,v,hr=>by
  simp only [bQ] at hr ⊢
  obtain ⟨A,c,h1,h2,h3,h4⟩:=hr
  exact ⟨A,c,h1,h2,h3,fun hn=>let ⟨b,o,e,r⟩:=h4 hn;⟨b,o,e,cQ.mono h b o cs r⟩⟩
theorem cQ.mono {M M':Mem}(h:Mem.le M M')(b:Nat):∀ (o:Nat) (cs:List DV),cQ M b o cs→cQ M' b o cs
 | _,[],_=>by simp [cQ]
 | o,c::cs,hr=>by
  simp only [cQ] at hr ⊢
  obtain ⟨⟨u,hu,hc⟩,hs⟩:=hr
  exact ⟨⟨u,h b o u hu,bQ.mono h c u hc⟩,cQ.mono h b (o+1) cs hs⟩
end
mutual
theorem cI.mono {μ:Nat→Nm}{M M':Mem}(h:Mem.le M M'):∀ (x:SV) (v:Value),cI μ M x v→cI μ M' x v
 | .d x,v,hr=>by simp only [cI] at hr ⊢;exact bQ.mono h x v hr
 | .ptr n off,v,hr=>by simpa [cI] using hr
 | .gs n len,v,hr=>by simpa [cI] using hr
 | .vp cs i,v,hr=>by
  simp only [cI] at hr ⊢
  obtain ⟨b,o,e,r⟩:=hr
  exact ⟨b,o,e,cQ.mono h b o cs r⟩
 | .bs _ _ _,v,hr=>by simpa [cI] using hr
 | .mp n,v,hr=>by simpa [cI] using hr
 | .it n,v,hr=>by simpa [cI] using hr
 | .yl n,v,hr=>by simpa [cI] using hr
 | .fn f a c,v,hr=>by
  simp only [cI] at hr ⊢
  obtain ⟨as,cs,e,h1,h2⟩:=hr
  exact ⟨as,cs,e,bY.mono h a _ h1,bY.mono h c _ h2⟩
 | .agg cs,v,hr=>by
  simp only [cI] at hr ⊢
  obtain ⟨vs,e,h1⟩:=hr
  exact ⟨vs,e,bY.mono h cs _ h1⟩
 | .dM cs,v,hr=>by
  simp only [cI] at hr ⊢
  obtain ⟨vs,e,h1⟩:=hr
  exact ⟨vs,e,bY.mono h cs _ h1⟩
 | .any,_,_=>by simp [cI]
theorem bY.mono {μ:Nat→Nm}{M M':Mem}(h:Mem.le M M'):∀ (xs:List SV) (vs:List Value),bY μ M xs vs→bY μ M' xs vs
 | [],vs,hr=>by simpa [bY] using hr
 | x::xs,vs,hr=>by
  simp only [bY] at hr ⊢
  obtain ⟨u,us,e,h1,h2⟩:=hr
  exact ⟨u,us,e,cI.mono h x u h1,bY.mono h xs us h2⟩
end
def Rp (p:Nat→Prop)(μ:Nat→Nm)(M:Mem)(s:SV)(v:Value):Prop:=∀ aZ:Nat→Nm,(∀ n,p n→aZ n=μ n)→cI aZ M s v
def aR (p:Nat→Prop)(μ:Nat→Nm)(M:Mem)(s:List SV)(v:List Value):Prop:=∀ aZ:Nat→Nm,(∀ n,p n→aZ n=μ n)→bY aZ M s v
theorem Rp.rep {p:Nat→Prop}{μ:Nat→Nm}{M:Mem}{s:SV}{v:Value}(h:Rp p μ M s v):cI μ M s v:=h μ fun _ _=>rfl
theorem aR.ug {p:Nat→Prop}{μ:Nat→Nm}{M:Mem}{s:List SV}{v:List Value}(h:aR p μ M s v):bY μ M s v:=h μ fun _ _=>rfl
theorem Rp.more {p p':Nat→Prop}{μ aZ:Nat→Nm}{M M':Mem}{s:SV}{v:Value}(h:Rp p μ M s v)(hp:∀ n,p n→p' n)(jv:∀ n,p n→aZ n=μ n)(hM:Mem.le M M'):Rp p' aZ M' s v:=
 fun ν gp=>cI.mono hM s v (h ν fun n hn=>(gp n (hp n hn)).trans (jv n hn))
theorem aR.more {p p':Nat→Prop}{μ aZ:Nat→Nm}{M M':Mem}{s:List SV}{v:List Value}(h:aR p μ M s v)(hp:∀ n,p n→p' n)(jv:∀ n,p n→aZ n=μ n)(hM:Mem.le M M'):aR p' aZ M' s v:=
 fun ν gp=>bY.mono hM s v (h ν fun n hn=>(gp n (hp n hn)).trans (jv n hn))
section
variable {p:Nat→Prop} {μ:Nat→Nm} {M:Mem}
theorem Rp.cu {x:DV}{v:Value}:Rp p μ M (.d x) v↔bQ M x v:=⟨fun h=>by simpa [cI] using h.rep,fun h aZ _=>by simpa [cI] using h⟩
theorem Rp.aN {k:IntKind}{n:Int}{v:Value}:Rp p μ M (.d (.int k n)) v↔v= .int k n:=by rw [Rp.cu,bQ]
theorem Rp.bz {b:Bool}{v:Value}:Rp p μ M (.d (.bool b)) v↔v= .bool b:=by rw [Rp.cu,bQ]
theorem Rp.any {v:Value}:Rp p μ M .any v:=fun _ _=>by simp [cI]
theorem aR.aP {vs:List Value}:aR p μ M [] vs↔vs=[]:=⟨fun h=>by simpa [bY] using h.ug,fun h _ _=>by simpa [bY] using h⟩
theorem aR.aF {c:SV}{cs:List SV}{vs:List Value}:aR p μ M (c::cs) vs↔∃ u us,vs=u::us∧Rp p μ M c u∧aR p μ M cs us:=by
 constructor
 ·intro h
  obtain ⟨u,us,rfl,_,_⟩:=(by simpa [bY] using h.ug:∃ u us,vs=u::us∧cI μ M c u∧bY μ M cs us)
  refine ⟨u,us,rfl,fun aZ jv=> ?_,fun aZ jv=> ?_⟩
  ·obtain ⟨u',us',e,a,_⟩:=(by simpa only [bY] using h aZ jv:∃ u' us',u::us=u'::us'∧cI aZ M c u'∧bY aZ M cs us')
   cases e;exact a
  ·obtain ⟨u',us',e,_,a⟩:=(by simpa only [bY] using h aZ jv:∃ u' us',u::us=u'::us'∧cI aZ M c u'∧bY aZ M cs us')
   cases e;exact a
 ·rintro ⟨u,us,rfl,h1,h2⟩ aZ jv
  simp only [bY]
  exact ⟨u,us,rfl,h1 aZ jv,h2 aZ jv⟩
theorem Rp.ez {cs:List SV}{v:Value}:Rp p μ M (.agg cs) v↔∃ vs,v= .agg vs∧aR p μ M cs vs.toList:=by
 constructor
 ·intro h
  obtain ⟨vs,rfl,_⟩:=(by simpa [cI] using h.rep:∃ vs,v= .agg vs∧bY μ M cs vs.toList)
  exact ⟨vs,rfl,fun aZ jv=>by have:=h aZ jv;simpa [cI] using this⟩
 ·rintro ⟨vs,rfl,h1⟩ aZ jv
  simp only [cI]
  exact ⟨vs,rfl,h1 aZ jv⟩
theorem Rp.dP {cs:List SV}{v:Value}:Rp p μ M (.dM cs) v↔∃ vs,v= .tuple vs∧aR p μ M cs vs.toList:=by
 constructor
 ·intro h
  obtain ⟨vs,rfl,_⟩:=(by simpa [cI] using h.rep:∃ vs,v= .tuple vs∧bY μ M cs vs.toList)
  exact ⟨vs,rfl,fun aZ jv=>by have:=h aZ jv;simpa [cI] using this⟩
 ·rintro ⟨vs,rfl,h1⟩ aZ jv
  simp only [cI]
  exact ⟨vs,rfl,h1 aZ jv⟩
theorem Rp.qj {f:Fn}{a c:List SV}{v:Value}:Rp p μ M (.fn f a c) v↔∃ as cs,v= .func f as cs∧aR p μ M a as.toList∧aR p μ M c cs.toList:=by
 constructor
 ·intro h
  obtain ⟨as,cs,rfl,_⟩:=(by simpa [cI] using h.rep:∃ as cs,v= .func f as cs∧bY μ M a as.toList∧bY μ M c cs.toList)
  refine ⟨as,cs,rfl,fun aZ jv=> ?_,fun aZ jv=> ?_⟩
  ·obtain ⟨as',cs',e,a',_⟩:=(by simpa only [cI] using h aZ jv:∃ as' cs',Value.func f as cs=Value.func f as' cs'∧bY aZ M a as'.toList∧bY aZ M c cs'.toList)
   cases e;exact a'
  ·obtain ⟨as',cs',e,_,a'⟩:=(by simpa only [cI] using h aZ jv:∃ as' cs',Value.func f as cs=Value.func f as' cs'∧bY aZ M a as'.toList∧bY aZ M c cs'.toList)
   cases e;exact a'
 ·rintro ⟨as,cs,rfl,h1,h2⟩ aZ jv
  simp only [cI]
  exact ⟨as,cs,rfl,h1 aZ jv,h2 aZ jv⟩
theorem aR.length {cs:List SV}:∀ {vs:List Value},aR p μ M cs vs→vs.length=cs.length:=by
 induction cs with
 | nil=>intro vs h;rw [aR.aP.1 h];rfl
 | cons c cs ih=>
  intro vs h
  obtain ⟨u,us,rfl,_,h2⟩:=aR.aF.1 h
  simp [ih h2]
theorem aR.get {cs:List SV}:∀ {vs:List Value},aR p μ M cs vs→∀ {i:Nat} {c:SV},cs[i]? =some c→∃ u,vs[i]? =some u∧Rp p μ M c u:=by
 induction cs with
 | nil=>intro vs _ i c h;simp at h
 | cons x cs ih=>
  intro vs h i c hi
  obtain ⟨u,us,rfl,h1,h2⟩:=aR.aF.1 h
  cases i with
  | zero=>simp at hi;subst hi;exact ⟨u,rfl,h1⟩
  | succ i=>simp at hi;simpa using ih h2 hi
theorem aR.drop {cs:List SV}{vs:List Value}(n:Nat)(h:aR p μ M cs vs):aR p μ M (cs.drop n) (vs.drop n):=by
 induction n generalizing cs vs with
 | zero=>simpa using h
 | succ n ih=>
  cases cs with
  | nil=>rw [aR.aP.1 h];simp;exact aR.aP.2 rfl
  | cons c cs=>
   obtain ⟨u,us,rfl,_,h2⟩:=aR.aF.1 h
   simpa using ih h2
theorem aR.take {cs:List SV}{vs:List Value}(n:Nat)(h:aR p μ M cs vs):aR p μ M (cs.take n) (vs.take n):=by
 induction n generalizing cs vs with
 | zero=>simp;exact aR.aP.2 rfl
 | succ n ih=>
  cases cs with
  | nil=>rw [aR.aP.1 h];simp;exact aR.aP.2 rfl
  | cons c cs=>
   obtain ⟨u,us,rfl,h1,h2⟩:=aR.aF.1 h
   simp
   exact aR.aF.2 ⟨_,_,rfl,h1,ih h2⟩
theorem aR.append {cs ds:List SV}{vs us:List Value}(h:aR p μ M cs vs)(k:aR p μ M ds us):aR p μ M (cs++ds) (vs++us):=by
 induction cs generalizing vs with
 | nil=>rw [aR.aP.1 h];simpa using k
 | cons c cs ih=>
  obtain ⟨u,us',rfl,h1,h2⟩:=aR.aF.1 h
  simp
  exact aR.aF.2 ⟨_,_,rfl,h1,ih h2⟩
end
theorem cQ.get {M:Mem}{b:Nat}:∀ {cs:List DV} {o i:Nat} {c:DV},cQ M b o cs→cs[i]? =some c→∃ u,M b (o+i)=some u∧bQ M c u
 | [],_,_,_,_,h=>by simp at h
 | x ::cs,o,i,c,hr,h=>by
  simp only [cQ] at hr
  cases i with
  | zero=>simp at h;subst h;simpa using hr.1
  | succ i=>
   simp at h
   have:=cQ.get hr.2 h
   rwa [show o+1+i=o+(i+1) by omega] at this
theorem cQ.drop {M:Mem}{b:Nat}:∀ {cs:List DV} {o:Nat} (i:Nat),cQ M b o cs→cQ M b (o+i) (cs.drop i)
 | cs,o,0,h=>by simpa using h
 | [],o,i+1,h=>by simp [cQ]
 | x::cs,o,i+1,h=>by
  simp only [cQ] at h
  have:=cQ.drop i h.2
  rwa [show o+1+i=o+(i+1) by omega] at this
theorem cQ.take {M:Mem}{b:Nat}:∀ {cs:List DV} {o:Nat} (i:Nat),cQ M b o cs→cQ M b o (cs.take i)
 | cs,o,0,h=>by simp [cQ]
 | [],o,i+1,h=>by simp [cQ]
 | x::cs,o,i+1,h=>by
  simp only [List.take_succ_cons,cQ] at h ⊢
  exact ⟨h.1,cQ.take i h.2⟩
theorem cQ.mk {M:Mem}{b:Nat}:∀ {cs:List DV} {o:Nat},(∀ (i:Nat) (c:DV),cs[i]? =some c→∃ u,M b (o+i)=some u∧bQ M c u)→cQ M b o cs
 | [],_,_=>by simp [cQ]
 | x::cs,o,h=>by
  simp only [cQ]
  refine ⟨by simpa using h 0 x rfl,cQ.mk fun i c hi=> ?_⟩
  have:=h (i+1) c (by simpa using hi)
  rwa [show o+1+i=o+(i+1) by omega]
def SV.dG:SV→Bool
 | .agg _ | .dM _ | .any=>false
 | _=>true
theorem bQ.one {M:Mem}{x:DV}{v:Value}(h:bQ M x v):v.oneCell'=true:=by
 cases x <;> simp only [bQ] at h
 all_goals first
  | (subst h;rfl)
  | (obtain ⟨b,rfl,_⟩:=h;rfl)
  | (obtain ⟨A,c,rfl,_⟩:=h;rfl)
theorem cI.one {μ:Nat→Nm}{M:Mem}{s:SV}{v:Value}(hs:s.dG=true)(h:cI μ M s v):v.oneCell'=true:=by
 cases s <;> simp only [SV.dG,Bool.false_eq_true] at hs <;> simp only [cI] at h
 case d=>exact h.one
 case gs=>rcases h with ⟨_,rfl⟩ | ⟨_,_,_,rfl⟩ <;> rfl
 case bs=>obtain ⟨_,_,rfl,_⟩:=h;rfl
 case mp=>rcases h with ⟨_,rfl⟩ | ⟨_,rfl⟩ <;> rfl
 all_goals first
  | (subst h;rfl)
  | (obtain ⟨_,_,rfl,_⟩:=h;rfl)
def SV.cells:SV→List SV
 | .agg cs=>cs
 | s=>[s]
theorem Rp.cells {p:Nat→Prop}{μ:Nat→Nm}{M:Mem}{s:SV}{v:Value}(hs:s.cells.all SV.dG=true)(h:Rp p μ M s v):aR p μ M s.cells v.cells.toList∧∀ u∈v.cells.toList,u.oneCell'=true:=by
 have key:∀ (cs:List SV) (vs:List Value),cs.all SV.dG=true→aR p μ M cs vs→∀ u∈vs,u.oneCell'=true:=by
  intro cs
  induction cs with
  | nil=>intro vs _ h u hu;rw [aR.aP.1 h] at hu;cases hu
  | cons c cs ih=>
   intro vs hc h u hu
   obtain ⟨u',us,rfl,h1,h2⟩:=aR.aF.1 h
   simp at hc
   rcases List.mem_cons.1 hu with rfl | hu
   ·exact h1.rep.one hc.1
   ·exact ih us (by simpa using hc.2) h2 u hu
 by_cases ha:∃ cs,s= .agg cs
 ·obtain ⟨cs,rfl⟩:=ha
  obtain ⟨vs,rfl,h1⟩:=Rp.ez.1 h
  exact ⟨h1,key _ _ hs h1⟩
 ·have hc:s.cells=[s]:=by cases s <;> first | rfl | exact absurd ⟨_,rfl⟩ ha
  rw [hc] at hs ⊢
  simp at hs
  have ho:=h.rep.one hs
  have hv:v.cells= #[v]:=by cases v <;> simp_all [Value.cells,Value.oneCell']
  rw [hv]
  exact ⟨aR.aF.2 ⟨v,[],rfl,h,aR.aP.2 rfl⟩,by simpa using ho⟩
def BB:List (Nat×List DV):=wM.map fun x=>(x.1,x.2.map fun c=> .int c.1 c.2)
def oF (M:Mem):Prop:=∀ g cs,BB.lookup g=some cs→cQ M g 0 cs
theorem oF.le {M M':Mem}(h:oF M)(hM:Mem.le M M'):oF M':=fun g cs hg=>cQ.mono hM g 0 cs (h g cs hg)
end
section
inductive Ob where
 | box (t:TypeId) (cs:List SV)
 | arr (e:TypeId) (sz len:Nat) (cs:List SV)
 | map (es:List (Nat×SV×SV)) (clock:Nat)
 | fu
 | iter (m:Option Nat) (since:Nat) (seen:List Nat) (stepped:Nat)
 | kJ (N:Nat) (ts:List Nat) (cs:List SV) (ps:List Nat) (as bd:Code) (st:LoopState) (pe:Option Code)
abbrev Hp:=List (Nat×Ob)
def lk (h:Hp)(n:Nat):Option Ob:=h.lookup n
def fT (p:Nat→Prop)(μ:Nat→Nm)(M:Mem):List (Nat×SV×SV)→List MapEntry→Prop
 | [],es=>es=[]
 | (b,k,v)::r,es=>∃ e es',es=e::es'∧e.born=b∧Rp p μ M k e.key∧Rp p μ M v e.val∧fT p μ M r es'
theorem fT.more {p p':Nat→Prop}{μ aZ:Nat→Nm}{M M':Mem}(hp:∀ n,p n→p' n)(jv:∀ n,p n→aZ n=μ n)(hM:Mem.le M M'):
  ∀ (r:List (Nat×SV×SV)) (es:List MapEntry),fT p μ M r es→fT p' aZ M' r es
 | [],es,h=>h
 | (b,k,v)::r,es,⟨e,es',h1,h2,h3,h4,h5⟩=>⟨e,es',h1,h2,h3.more hp jv hM,h4.more hp jv hM,fT.more hp jv hM r es' h5⟩
def bW (p:Nat→Prop)(μ:Nat→Nm)(M:Mem)(w:World)(m:Nm):Ob→Prop
 | .box t cs=>m.live=true∧∃ vs:Array Value,w.heap[m.blk]? =some (.cells vs t (0,0))∧aR p μ M cs vs.toList
 | .arr e sz len cs=>(m.live=false∧len=0∧cs=[])∨m.live=true∧∃ vs:Array Value,w.heap[m.blk]? =some (.cells vs e (0,0))∧cs.length=len*sz∧len≤m.cap∧m.cap≤maxLen∧vs.size=m.cap*sz∧aR p μ M cs (vs.toList.take (len*sz))
 | .map es c=>m.live=true∧∃ c_:Array MapEntry,w.heap[m.blk]? =some (.map c_ c)∧fT p μ M es c_.toList
 | .fu=>m.live=false
 | .iter mo since seen st=>m.live=true∧(∀ n,mo=some n→p n)∧w.heap[m.blk]? =some (.mapIter (mo.map fun n=>(μ n).blk) since seen.toArray st)
 | .kJ N ts cs ps as bd st pe=>m.live=true∧∃ r:Loop,w.heap[m.blk]? =some (.loop r)∧aR p μ M cs (ts.map fun t=>r.tmps.getD t undef)∧r.tmps.size=N∧r.params.toList=ps∧r.assign=as∧r.body=bd∧r.state=st∧r.pending=pe
theorem bW.lt {p:Nat→Prop}{μ:Nat→Nm}{M:Mem}{w:World}{m:Nm}{ob:Ob}(h:bW p μ M w m ob)(hl:m.live=true):m.blk<w.heap.size:=by
 have key:∀ {x:Obj},w.heap[m.blk]? =some x→m.blk<w.heap.size:=fun hx=>(Array.getElem?_eq_some_iff.1 hx).1
 cases ob <;> simp only [bW] at h
 case box=>obtain ⟨_,_,h,_⟩:=h;exact key h
 case arr=>
  rcases h with ⟨h,_⟩ | ⟨_,_,h,_⟩
  ·rw [hl] at h;cases h
  ·exact key h
 case map=>obtain ⟨_,_,h,_⟩:=h;exact key h
 case fu=>rw [hl] at h;cases h
 case iter=>exact key h.2.2
 case kJ=>obtain ⟨_,_,h,_⟩:=h;exact key h
theorem bW.more {p p':Nat→Prop}{μ aZ:Nat→Nm}{M M':Mem}{w w':World}{m:Nm}{ob:Ob}(h:bW p μ M w m ob)(hp:∀ n,p n→p' n)(jv:∀ n,p n→aZ n=μ n)(hM:Mem.le M M')
  (hw:m.live=true→w'.heap[m.blk]? =w.heap[m.blk]?):bW p' aZ M' w' m ob:=by
 cases ob <;> simp only [bW] at h ⊢
 case box=>obtain ⟨h0,vs,h1,h2⟩:=h;exact ⟨h0,vs,(hw h0).trans h1,h2.more hp jv hM⟩
 case arr=>
  rcases h with h | ⟨h0,vs,h1,h2,h3,h4,h5,h6⟩
  ·exact .inl h
  ·exact .inr ⟨h0,vs,(hw h0).trans h1,h2,h3,h4,h5,h6.more hp jv hM⟩
 case map=>obtain ⟨h0,vs,h1,h2⟩:=h;exact ⟨h0,vs,(hw h0).trans h1,fT.more hp jv hM _ _ h2⟩
 case fu=>exact h
 case iter mo _ _ _=>
  refine ⟨h.1,fun n hn=>hp n (h.2.1 n hn),(hw h.1).trans (h.2.2.trans ?_)⟩
  cases mo with
  | none=>rfl
  | some n=>simp [jv n (h.2.1 n rfl)]
 case kJ=>obtain ⟨h0,r,h1,h2,h3⟩:=h;exact ⟨h0,r,(hw h0).trans h1,h2.more hp jv hM,h3⟩
structure oV (M:Mem)(w:World):Prop where
 cell:∀ b o v,M b o=some v→w.cell? ⟨b,o,none⟩=some v
 j9:oF M
instance {M:Mem} {w:World}:CoeFun (oV M w) fun _=>∀ b o v,M b o=some v→w.cell? ⟨b,o,none⟩=some v:=⟨oV.cell⟩
structure bK (p:Nat→Prop)(μ:Nat→Nm)(M:Mem)(c:Nat→Option Ob)(w:World):Prop where
 mem:oV M w
 obs:∀ n ob,c n=some ob→p n∧bW p μ M w (μ n) ob∧((μ n).live=true→∀ o,M (μ n).blk o=none)
 inj:∀ n m,c n≠none→c m≠none→(μ n).live=true→(μ m).live=true→(μ n).blk=(μ m).blk→n=m
def Tape (w w':World):Prop:=w'.tape=w.tape∧w.drawn≤w'.drawn
theorem Tape.refl (w:World):Tape w w:=⟨rfl,Nat.le_refl _⟩
theorem Tape.trans {w w' w'':World}(h:Tape w' w'')(k:Tape w w'):Tape w w'':=⟨h.1.trans k.1,Nat.le_trans k.2 h.2⟩
structure Ev (c:Nat→Option Ob)(new:Nat→Prop)(μ:Nat→Nm)(M:Mem)(w:World)(c':Nat→Option Ob)(aZ:Nat→Nm)(M':Mem)(w':World):Prop where
 old:∀ n,¬ new n→aZ n=μ n
 mem:Mem.le M M'
 frame:∀ b,b<w.heap.size→(∀ n,c n≠none→(μ n).live=true→(μ n).blk≠b)→w'.heap[b]? =w.heap[b]? ∧∀ o,M' b o=M b o
 size:w.heap.size≤w'.heap.size
 names:∀ n,c' n≠none→(new n∧((aZ n).live=true→w.heap.size≤(aZ n).blk∨∃ m,c m≠none∧(μ m).live=true∧(μ m).blk=(aZ n).blk))∨(¬ new n∧c n≠none)
 os:w'.os=w.os
 tape:Tape w w'
 output:w'.output=w.output
def ya (H F F':Nat→Option Ob)(n:Nat):Option Ob:=if (F n).isSome || (F' n).isSome then F' n else H n
theorem dN {H F F':Nat→Option Ob}{n:Nat}(h:F n≠none∨F' n≠none):ya H F F' n=F' n:=by
 unfold ya
 rw [if_pos]
 rcases h with h | h <;> simp [Option.isSome_iff_ne_none,h]
theorem cM {H F F':Nat→Option Ob}{n:Nat}(h:F n=none)(h':F' n=none):ya H F F' n=H n:=by simp [ya,h,h']
section
variable {p p':Nat→Prop} {μ aZ:Nat→Nm} {M M':Mem} {H F F':Nat→Option Ob} {w w':World} {new:Nat→Prop}
theorem bK.sub (hS:bK p μ M H w)(hsub:∀ n ob,F n=some ob→H n=some ob):bK p μ M F w:=
 have hne:∀ n,F n≠none→H n≠none:=fun n h=>by
  obtain ⟨ob,ho⟩:=Option.ne_none_iff_exists'.1 h
  rw [hsub n ob ho];simp
 ⟨hS.mem,fun n ob h=>hS.obs n ob (hsub n ob h),fun n m hn hm=>hS.inj n m (hne n hn) (hne m hm)⟩
theorem bK.lt (hS:bK p μ M H w){n:Nat}(h:H n≠none)(hl:(μ n).live=true):(μ n).blk<w.heap.size:=by
 obtain ⟨ob,ho⟩:=Option.ne_none_iff_exists'.1 h
 exact (hS.obs n ob ho).2.1.lt hl
theorem bK.yc (hS:bK p μ M H w)(hsub:∀ n ob,F n=some ob→H n=some ob)(hnew:∀ n,new n→ ¬ p n)
  (hE:Ev F new μ M w F' aZ M' w') (rJ:bK p' aZ M' F' w') (hp:∀ n,p n→p' n):
  bK p' aZ M' (ya H F F') w'∧Ev H new μ M w (ya H F F') aZ M' w':=by
 have hne:∀ n,F n≠none→H n≠none:=fun n h=>by
  obtain ⟨ob,ho⟩:=Option.ne_none_iff_exists'.1 h
  rw [hsub n ob ho];simp
 have hpn:∀ n,H n≠none→p n:=fun n h=>by
  obtain ⟨ob,ho⟩:=Option.ne_none_iff_exists'.1 h
  exact (hS.obs n ob ho).1
 have hold:∀ n,p n→aZ n=μ n:=fun n h=>hE.old n fun h'=>hnew n h' h
 have Gp:∀ n,H n≠none→F n=none→(μ n).live=true→∀ m,F m≠none→(μ m).live=true→(μ m).blk≠(μ n).blk:=fun n hn hf l1 m hm l2 e=>by
  have:=hS.inj m n (hne m hm) hn l2 l1 e
  subst this
  exact hm hf
 have cut:∀ n,(F n≠none∨F' n≠none)∨(F n=none∧F' n=none):=fun n=>by
  cases h1:F n <;> cases h2:F' n <;> simp
 refine ⟨⟨rJ.mem,fun n ob hn=> ?_,fun n m hn hm ln lm e=> ?_⟩,⟨hE.old,hE.mem,fun b hb hf=> ?_,hE.size,fun n hn=> ?_,hE.os,hE.tape,hE.output⟩⟩
 ·rcases cut n with h | ⟨h1,h2⟩
  ·rw [dN h] at hn
   exact rJ.obs n ob hn
  ·rw [cM h1 h2] at hn
   obtain ⟨a1,a2,a3⟩:=hS.obs n ob hn
   have hHn:H n≠none:=by rw [hn];simp
   have hb:=fun l:(μ n).live=true=>hE.frame (μ n).blk (a2.lt l) (Gp n hHn h1 l)
   refine ⟨hp n a1,?_,?_⟩
   ·rw [hold n a1]
    exact a2.more hp hold hE.mem fun l=>(hb l).1
   ·intro l o
    rw [hold n a1] at l ⊢
    rw [(hb l).2]
    exact a3 l o
 ·have one:∀ n m,F' n≠none→(F m=none∧F' m=none)→H m≠none→(aZ n).live=true→(aZ m).live=true→(aZ n).blk=(aZ m).blk→False:=by
   intro n m hn hm hHm ln lm e
   have pm:=hpn m hHm
   rw [hold m pm] at e lm
   rcases hE.names n hn with ⟨_,hh⟩ | ⟨h1,h2⟩
   ·rcases hh ln with h | ⟨q,hq,lq,e'⟩
    ·have:=hS.lt hHm lm;omega
    ·exact Gp m hHm hm.1 lm q hq lq (e'.trans e)
   ·rw [hE.old n h1] at e ln
    exact Gp m hHm hm.1 lm n h2 ln e
  rcases cut n with hn' | hn' <;> rcases cut m with hm' | hm'
  ·rw [dN hn'] at hn;rw [dN hm'] at hm
   exact rJ.inj n m hn hm ln lm e
  ·rw [dN hn'] at hn;rw [cM hm'.1 hm'.2] at hm
   exact (one n m hn hm' hm ln lm e).elim
  ·rw [cM hn'.1 hn'.2] at hn;rw [dN hm'] at hm
   exact (one m n hm hn' hn lm ln e.symm).elim
  ·rw [cM hn'.1 hn'.2] at hn;rw [cM hm'.1 hm'.2] at hm
   rw [hold n (hpn n hn)] at e ln
   rw [hold m (hpn m hm)] at e lm
   exact hS.inj n m hn hm ln lm e
 ·exact hE.frame b hb fun n hn=>hf n (hne n hn)
 ·rcases cut n with h | ⟨h1,h2⟩
  ·rw [dN h] at hn
   rcases hE.names n hn with ⟨a,hh⟩ | ⟨a,b⟩
   ·refine .inl ⟨a,fun l=> ?_⟩
    rcases hh l with b | ⟨m,hm,lm,e⟩
    ·exact .inl b
    ·exact .inr ⟨m,hne m hm,lm,e⟩
   ·exact .inr ⟨a,hne n b⟩
  ·rw [cM h1 h2] at hn
   exact .inr ⟨fun h=>hnew n h (hpn n hn),hn⟩
theorem Ev.refl (c:Nat→Option Ob)(new:Nat→Prop)(μ:Nat→Nm)(M:Mem)(w:World)(h:∀ n,c n≠none→ ¬ new n):Ev c new μ M w c μ M w:=
 ⟨fun _ _=>rfl,Mem.le_refl M,fun _ _ _=>⟨rfl,fun _=>rfl⟩,Nat.le_refl _,fun n hn=> .inr ⟨h n hn,hn⟩,rfl,Tape.refl _,rfl⟩
theorem Ev.trans {c c1 c2:Nat→Option Ob}{new1 new2:Nat→Prop}{vF Gq:Nat→Nm}{M1 M2:Mem}{w1 w2:World}
    (h1:Ev c new1 μ M w c1 vF M1 w1) (h2:Ev c1 new2 vF M1 w1 c2 Gq M2 w2):Ev c (fun n=>new1 n∨new2 n) μ M w c2 Gq M2 w2 where
  old n hn:=(h2.old n fun h=>hn (.inr h)).trans (h1.old n fun h=>hn (.inl h))
  mem:=Mem.le_trans h1.mem h2.mem
  frame b hb hf:=by
    have e1:=h1.frame b hb hf
    have e2:=h2.frame b (Nat.lt_of_lt_of_le hb h1.size) fun n hn ln he=>by
      rcases h1.names n hn with ⟨_,hh⟩ | ⟨h,h'⟩
      · rcases hh ln with h | ⟨m,hm,lm,e⟩
        · omega
        · exact hf m hm lm (e.trans he)
      · rw [h1.old n h] at he ln
        exact hf n h' ln he
    exact ⟨e2.1.trans e1.1,fun o=>(e2.2 o).trans (e1.2 o)⟩
  size:=Nat.le_trans h1.size h2.size
  names n hn:=by
    rcases h2.names n hn with ⟨a,hh⟩ | ⟨a,b⟩
    · refine .inl ⟨.inr a,fun l=> ?_⟩
      rcases hh l with b | ⟨m,hm,lm,e⟩
      · exact .inl (Nat.le_trans h1.size b)
      · rcases h1.names m hm with ⟨_,hh'⟩ | ⟨h,h'⟩
        · rcases hh' lm with h | ⟨q,hq,lq,e'⟩
          · exact .inl (by rw [← e];exact h)
          · exact .inr ⟨q,hq,lq,e'.trans e⟩
        · rw [h1.old m h] at e lm
          exact .inr ⟨m,h',lm,e⟩
    · by_cases hn2:new1 n
      · rcases h1.names n b with ⟨_,hh'⟩ | ⟨h,h'⟩
        · refine .inl ⟨.inl hn2,fun l=> ?_⟩
          rw [h2.old n a] at l ⊢
          exact hh' l
        · exact absurd hn2 h
      · rcases h1.names n b with ⟨h,_⟩ | ⟨h,h'⟩
        · exact absurd h hn2
        · exact .inr ⟨fun hh=>hh.elim hn2 a,h'⟩
  os:=h2.os.trans h1.os
  tape:=h2.tape.trans h1.tape
  output:=h2.output.trans h1.output
theorem Ev.rW {c c':Nat→Option Ob}{new new':Nat→Prop}(h:Ev c new μ M w c' aZ M' w')(hi:∀ n,new n↔new' n):Ev c new' μ M w c' aZ M' w':=by
 have:new=new':=funext fun n=>propext (hi n)
 rw [← this];exact h
theorem Ev.wN {c c' c'':Nat→Option Ob}(h:Ev c new μ M w c' aZ M' w')(hc:∀ n,c'' n≠none→c' n≠none):Ev c new μ M w c'' aZ M' w':=
 ⟨h.old,h.mem,h.frame,h.size,fun n hn=>h.names n (hc n hn),h.os,h.tape,h.output⟩
theorem Ev.drew {c c':Nat→Option Ob}(h:Ev c new μ M w c' aZ M' w'):Ev c new μ M w c' aZ M' w'.drew:=
 ⟨h.old,h.mem,h.frame,h.size,h.names,h.os,⟨h.tape.1,Nat.le_trans h.tape.2 (Nat.le_succ _)⟩,h.output⟩
theorem bK.drew (h:bK p μ M H w):bK p μ M H w.drew:=by
 refine ⟨⟨h.mem.cell,h.mem.j9⟩,fun n ob hn=> ?_,h.inj⟩
 obtain ⟨a,b,c⟩:=h.obs n ob hn
 exact ⟨a,b.more (fun _ h=>h) (fun _ _=>rfl) (Mem.le_refl M) fun _=>rfl,c⟩
theorem bK.more (h:bK p μ M H w)(hp:∀ n,p n→p' n):bK p' μ M H w:=by
 refine ⟨h.mem,fun n ob hn=> ?_,h.inj⟩
 obtain ⟨a,b,c⟩:=h.obs n ob hn
 exact ⟨hp n a,b.more hp (fun _ _=>rfl) (Mem.le_refl M) fun _=>rfl,c⟩
end
end
end Go.Sl
namespace Go.Sl
open Go.RowKit
section
inductive X where
 | t (n:Nat)
 | k (s:SV)
 deriving Inhabited
inductive SO where
 | mv (x:X)
 | pick (c a b:X)
 | alloc (t:TypeId) (z:List SV)
 | box (t:TypeId) (x:X)
 | load (sz:Option Nat) (x:X)
 | store (sz:Nat) (x v:X)
 | aV (off:Nat) (x:X)
 | qk (len sz:Nat) (x i:X)
 | ew (sz:Nat) (x i:X)
 | field (off:Nat) (sz:Option Nat) (x:X)
 | index (len sz:Nat) (agg:Bool) (x i:X)
 | bin (op:BinOp) (x y:X)
 | eqv (neg:Bool) (ks:List Bool) (x y:X)
 | qh (neg:Bool) (x y:X)
 | gX (neg:Bool) (kd:Nat) (x:X)
 | not (x:X)
 | neg (x:X)
 | lens (x:X)
 | EK (x i:X)
 | GY (len sz:Nat) (x:X) (lo hi:Option X)
 | GZ (x h m:X)
 | conv (k:IntKind) (x:X)
 | ext (i:Nat) (x:X)
 | d_ (x:X)
 | fE (z:List SV) (parts:List (Nat×Nat×X))
 | oU (e sz len:Nat) (z:List SV) (parts:List (Nat×Nat×X))
 | slc (sz:Nat) (x:X) (lo hi:Option X)
 | len (x:X)
 | mx (x y:X)
 | mn (x y:X)
 | app (e sz bytes:Nat) (s x:X)
 | sE (f:Fn) (first cap:List X)
 | zj
 | Kl (e sz bytes:Nat) (z:List SV) (len cap:X)
 | look (ks:List Bool) (agg:Bool) (z:SV) (m i:X) (ok:Bool)
 | sF (ks:List Bool) (agg:Bool) (m i v:X)
 | G0 (m:X)
 | EL (ks:List Bool) (agg:Bool) (m i:X)
 | lI (m:X)
 | jY (it:X)
 | mI (it:X)
 | copy (e sz:Nat) (d s:X)
 | rj (ks:List Bool) (agg:Bool) (z:SV) (m i:X)
 | rm (m s x:X)
 | IS (sz:Nat) (z:List SV) (x:X)
 | call (f:X) (args:List X)
 deriving Inhabited
def cC:Value→Option SV
 | .int k n=>some (.d (.int k n))
 | .bool b=>some (.d (.bool b))
 | .pointer none=>some (.d .jt)
 | .map none=>some (.d .jl)
 | .nilFunc=>some (.d .fS)
 | .slice none 0 0=>some (.d .aU)
 | .string b=>some (.d (.str (b.data.toList.map UInt8.toNat)))
 | _=>none
def IC:List Value→Option (List SV)
 | []=>some []
 | v::vs=>match cC v,IC vs with
  | some s,some ss=>some (s::ss)
  | _,_=>none
def cV:Value→Option SV
 | .agg cs=>(IC cs.toList).map .agg
 | v=>cC v
def cX:Operand→Option X
 | .tmp t=>some (.t t)
 | .const v=>(cV v).map .k
 | .func f=>some (.k (.fn (.func f) [] []))
 | .global g=>(BB.lookup g).map fun cs=> .k (.vp cs 0)
def Bv:List Operand→Option (List X)
 | []=>some []
 | v::vs=>match cX v,Bv vs with
  | some s,some ss=>some (s::ss)
  | _,_=>none
theorem BC {p:Nat→Prop}{μ:Nat→Nm}{M:Mem}:∀ {v:Value} {s:SV},cC v=some s→Rp p μ M s v∧s.dG=true:=by
 intro v s h
 unfold cC at h
 split at h <;> first | cases h | skip
 all_goals exact ⟨Rp.cu.2 (by simp [bQ]),rfl⟩
theorem zk {p:Nat→Prop}{μ:Nat→Nm}{M:Mem}:∀ {vs:List Value} {ss:List SV},IC vs=some ss→aR p μ M ss vs∧ss.all SV.dG=true:=by
 intro vs
 induction vs with
 | nil=>intro ss h;simp [IC] at h;subst h;exact ⟨aR.aP.2 rfl,rfl⟩
 | cons v vs ih=>
  intro ss h
  simp only [IC] at h
  split at h
  ·rename_i s ss' h1 h2
   simp at h
   subst h
   obtain ⟨a1,a2⟩:=BC (p:=p) (μ:=μ) (M:=M) h1
   obtain ⟨b1,b2⟩:=ih h2
   exact ⟨aR.aF.2 ⟨_,_,rfl,a1,b1⟩,by simp [a2,b2]⟩
  ·cases h
theorem BD {p:Nat→Prop}{μ:Nat→Nm}{M:Mem}{v:Value}{s:SV}(h:cV v=some s):Rp p μ M s v:=by
 unfold cV at h
 split at h
 ·rename_i cs
  obtain ⟨ss,h1,rfl⟩:=Option.map_eq_some_iff.1 h
  exact Rp.ez.2 ⟨cs,rfl,(zk h1).1⟩
 ·exact (BC h).1
def ev (E:Nat→Option SV):X→Option SV
 | .t n=>E n
 | .k s=>some s
def oG (E:Nat→Option SV):List X→Option (List SV)
 | []=>some []
 | x::xs=>match ev E x,oG E xs with
  | some s,some ss=>some (s::ss)
  | _,_=>none
def gq (E:Nat→Option SV)(xs:Array Operand)(p:Nat→Prop)(μ:Nat→Nm)(M:Mem)(a:Act):Prop:=
 (∀ t,Operand.tmp t∈xs→∀ s,E t=some s→Rp p μ M s (a.tmps.getD t undef))∧oF M
section
variable {E:Nat→Option SV} {xs:Array Operand} {p:Nat→Prop} {μ:Nat→Nm} {M:Mem} {a:Act}
theorem gq.get (h:gq E xs p μ M a){o:Operand}{x:X}{s:SV}(ho:o∈xs)(hx:cX o=some x)(hs:ev E x=some s):Rp p μ M s (a.eval o):=by
 cases o with
 | tmp t=>
  simp [cX] at hx
  subst hx
  exact h.1 t ho s hs
 | const v=>
  simp only [cX] at hx
  obtain ⟨s',h1,rfl⟩:=Option.map_eq_some_iff.1 hx
  simp [ev] at hs
  subst hs
  exact BD h1
 | func f=>
  simp [cX] at hx
  subst hx
  simp [ev] at hs
  subst hs
  exact Rp.qj.2 ⟨#[],#[],rfl,aR.aP.2 rfl,aR.aP.2 rfl⟩
 | global g=>
  simp only [cX] at hx
  obtain ⟨cs,h1,rfl⟩:=Option.map_eq_some_iff.1 hx
  simp [ev] at hs
  subst hs
  exact fun aZ _=>by
   simp only [cI]
   exact ⟨g,0,rfl,h.2 g cs h1⟩
theorem gq.vG (h:gq E xs p μ M a):∀ {os:List Operand} {ys:List X} {ss:List SV},(∀ o∈os,o∈xs)→Bv os=some ys→oG E ys=some ss→aR p μ M ss (os.map a.eval)
 | [],ys,ss,_,hx,hs=>by
  simp [Bv] at hx
  subst hx
  simp [oG] at hs
  subst hs
  exact aR.aP.2 rfl
 | o ::os,ys,ss,ho,hx,hs=>by
  simp only [Bv] at hx
  split at hx
  ·rename_i y ys' h1 h2
   simp at hx
   subst hx
   simp only [oG] at hs
   split at hs
   ·rename_i s ss' h3 h4
    simp at hs
    subst hs
    exact aR.aF.2 ⟨_,_,rfl,h.get (ho o (by simp)) h1 h3,h.vG (fun o' ho'=>ho o' (by simp [ho'])) h2 h4⟩
   ·cases hs
  ·cases hx
end
structure kH where
 v:SV
 F:Hp
 F':Hp
 nk:Nat
 ob:Prop
def jc (r:Option Nat):Fence:={ Fence.wide with round:=r}
theorem ql {r:Option Nat}{n:Nat}{P:Program}{f:FuncId}{args:Array Value}{w:World}{R:Ending→World→Prop}:CallsIn (jc r) n P f args w R↔Calls P f args w R:=
 (callsIn_wide (n:=n):CallsIn Fence.wide n P f args w R↔_)
def OT (P:Program)(o:Oper)(E:Nat→Option SV)(F:Hp)(new:Nat→Prop)(v:SV)(F':Hp):Prop:=
 ∀ (rd:Option Nat) (p:Nat→Prop) (μ:Nat→Nm) (M:Mem) (a:Act) (w:World) (K:Act→World→Prop) (Q:Exit→Act→World→Prop),(∀ n,new n→ ¬ p n)→
  gq E o.op.operands p μ M a→bK p μ M (lk F) w→
  (∀ u aZ M' w',Rp (fun n=>p n∨new n) aZ M' v u→bK (fun n=>p n∨new n) aZ M' (lk F') w'→Ev (lk F) new μ M w (lk F') aZ M' w'→K (a.put o.dst u) w')→
  o.wpIn (jc rd) 0 P a w K Q
section
variable {P:Program} {o:Oper} {E:Nat→Option SV} {F F':Hp} {new:Nat→Prop} {v:SV}
theorem mZ {rd:Option Nat}{a:Act}{w w':World}{x:Next}(hx:∀ d,x≠ .defer d)(h:(execOp a.eval o).run P w= .ok x w'):(o.semAt rd a.eval).run P w= .ok x w':=by
 by_cases hd:∃ c,o.op= .defer c
 ·exfalso
  obtain ⟨c,hd⟩:=hd
  simp only [execOp,hd,Sem.run_bind] at h
  cases hr:(resolve a.eval c o.type).run P w with
  | ok d w1=>
   rw [hr] at h
   simp only [Result.andThen_ok,Sem.run_pure] at h
   injection h with h _
   exact hx d h.symm
  | halt z w1=>rw [hr] at h;simp [Result.andThen] at h
 ·rw [Oper.semAt_eq rd _ _ (fun c e=>hd ⟨c,e⟩)];exact h
theorem gr {rd:Option Nat}{a:Act}{w w':World}{K:Act→World→Prop}{Q:Exit→Act→World→Prop}{u:Value}(h:(execOp a.eval o).run P w= .ok (.value u) w')(hk:K (a.put o.dst u) w'):o.wpIn (jc rd) 0 P a w K Q:=by
 refine ⟨fun _ _=>trivial,?_⟩
 rw [mZ (fun d e=>by cases e) h];exact hk
theorem zl {rd:Option Nat}{a:Act}{w w':World}{K:Act→World→Prop}{Q:Exit→Act→World→Prop}(h:(execOp a.eval o).run P w= .ok .skip w')(hk:K (a.put o.dst undef) w'):o.wpIn (jc rd) 0 P a w K Q:=by
 refine ⟨fun _ _=>trivial,?_⟩
 rw [mZ (fun d e=>by cases e) h];exact hk
theorem OT.pure {k:Nat}(h:∀ (p:Nat→Prop) (μ:Nat→Nm) (M:Mem) (a:Act) (w:World),gq E o.op.operands p μ M a→bK p μ M (lk F) w→
  ∃ u,(execOp a.eval o).run P w= .ok (.value u) w∧Rp p μ M v u):OT P o E F (fun n=>k≤n∧n<k+0) v F:=by
 intro rd p μ M a w K Q hnew hkn hS hK
 obtain ⟨u,hr,hu⟩:=h p μ M a w hkn hS
 refine gr hr (hK u μ M w (hu.more (fun n h=> .inl h) (fun _ _=>rfl) (Mem.le_refl M)) (hS.more fun n h=> .inl h) (Ev.refl _ _ _ _ _ fun n hn h=>by omega))
def yd (μ:Nat→Nm)(k:Nat)(m:Nm):Nat→Nm:=fun n=>if n=k then m else μ n
theorem bF (μ:Nat→Nm)(k:Nat)(m:Nm):yd μ k m k=m:=by simp [yd]
theorem eA (μ:Nat→Nm)(k:Nat)(m:Nm){n:Nat}(h:n≠k):yd μ k m n=μ n:=by simp [yd,h]
theorem uB {p:Nat→Prop}{μ:Nat→Nm}{k:Nat}{m:Nm}(hk: ¬ p k):∀ n,p n→yd μ k m n=μ n:=fun n hn=>eA μ k m fun e=>hk (e ▸ hn)
theorem fF (w:World)(o:Obj):(w.alloc o).heap[w.heap.size]? =some o:=by show (w.heap.push o)[w.heap.size]? =_;simp
theorem jd (w:World)(o:Obj){b:Nat}(h:b<w.heap.size):(w.alloc o).heap[b]? =w.heap[b]? :=Below.heap_alloc w o b h
theorem kK {M:Mem}{w:World}(o:Obj)(h:oV M w):oV M (w.alloc o):=by
 refine ⟨?_,h.j9⟩
 intro b i v hm
 have:=h b i v hm
 rw [World.cell?_alloc_lt w o ⟨b,i,none⟩ (World.block_lt_of_cell? w ⟨b,i,none⟩ this)]
 exact this
theorem sG {M:Mem}{w:World}{b:Nat}(h:oV M w)(hb:w.heap.size≤b):∀ i,M b i=none:=by
 intro i
 cases hm:M b i with
 | none=>rfl
 | some v=>
  have:=World.block_lt_of_cell? w ⟨b,i,none⟩ (h b i v hm)
  simp at this
  omega
theorem bt (n:Nat):lk [] n=none:=rfl
theorem bZ {k:Nat}{ob:Ob}(n:Nat):lk [(k,ob)] n=if n=k then some ob else none:=by
 unfold lk
 simp only [List.lookup]
 by_cases h:n=k
 ·subst h;simp
 ·rw [if_neg h,show (n == k)=false by simpa using h]
theorem OT.make {k:Nat}{ob:Ob}(h:∀ (p:Nat→Prop) (μ:Nat→Nm) (M:Mem) (a:Act) (w:World),gq E o.op.operands p μ M a→oV M w→
  ∃ u ro cap,(execOp a.eval o).run P w= .ok (.value u) (w.alloc ro)∧
   ∀ (p':Nat→Prop) (aZ:Nat→Nm),(∀ n,p n→p' n)→(∀ n,p n→aZ n=μ n)→p' k→aZ k=⟨w.heap.size,cap,true⟩→bW p' aZ M (w.alloc ro) ⟨w.heap.size,cap,true⟩ ob∧Rp p' aZ M v u):
  OT P o E [] (fun n=>k≤n∧n<k+1) v [(k,ob)]:=by
 intro rd p μ M a w K Q hnew hkn hS hK
 obtain ⟨u,ro,cap,hr,hu⟩:=h p μ M a w hkn hS.mem
 have hk: ¬ p k:=hnew k ⟨Nat.le_refl _,by omega⟩
 obtain ⟨h1,h2⟩:=hu (fun n=>p n∨(k≤n∧n<k+1)) (yd μ k ⟨w.heap.size,cap,true⟩) (fun n h=> .inl h) (uB hk) (.inr ⟨Nat.le_refl _,by omega⟩) (bF _ _ _)
 refine gr hr (hK u (yd μ k ⟨w.heap.size,cap,true⟩) M (w.alloc ro) h2 ⟨kK ro hS.mem,fun n jw hn=> ?_,fun n m hn hm _ _ _=> ?_⟩ ⟨fun n hn=> ?_,Mem.le_refl M,fun b hb _=>⟨jd w ro hb,fun _=>rfl⟩,by simp,fun n hn=> ?_,rfl,⟨rfl,Nat.le_refl _⟩,rfl⟩)
 ·rw [bZ] at hn
  split at hn
  ·rename_i hnk
   subst hnk
   simp at hn
   subst hn
   rw [bF]
   exact ⟨.inr ⟨Nat.le_refl _,by omega⟩,h1,fun _=>sG hS.mem (Nat.le_refl _)⟩
  ·cases hn
 ·rw [bZ] at hn hm
  split at hn <;> split at hm <;> first | omega | simp at hn hm
 ·exact eA _ _ _ (by omega)
 ·rw [bZ] at hn
  split at hn
  ·rename_i hnk
   subst hnk
   exact .inl ⟨⟨Nat.le_refl _,by omega⟩,fun _=> .inl (by rw [bF];exact Nat.le_refl _)⟩
  ·simp at hn
theorem OT.write {k n:Nat}{ob jw:Ob}(h:∀ (p:Nat→Prop) (μ:Nat→Nm) (M:Mem) (a:Act) (w:World),gq E o.op.operands p μ M a→p n→bW p μ M w (μ n) ob→
  ∃ u w',((execOp a.eval o).run P w= .ok (.value u) w'∨((execOp a.eval o).run P w= .ok .skip w'∧u=undef))∧Rp p μ M v u∧bW p μ M w' (μ n) jw∧
   (∀ b,((μ n).live=true→b≠(μ n).blk)→w'.heap[b]? =w.heap[b]?)∧w'.heap.size=w.heap.size∧w'.os=w.os∧Tape w w'∧w'.output=w.output):
  OT P o E [(n,ob)] (fun m=>k≤m∧m<k+0) v [(n,jw)]:=by
 intro rd p μ M a w K Q hnew hkn hS hK
 obtain ⟨hp,bn,hmn⟩:=hS.obs n ob (by simp [bZ])
 obtain ⟨u,w',hr,hu,hob',hother,hsz,h1,h2,h3⟩:=h p μ M a w hkn hp bn
 have hpk:∀ m,p m→(fun m=>p m∨(k≤m∧m<k+0)) m:=fun m hm=> .inl hm
 have key:K (a.put o.dst u) w':=by
  refine hK u μ M w' (hu.more hpk (fun _ _=>rfl) (Mem.le_refl M)) ⟨⟨fun b i x hm=> ?_,hS.mem.j9⟩,fun m ob'' hm=> ?_,fun m m' hm hm' _ _ _=> ?_⟩
   ⟨fun _ _=>rfl,Mem.le_refl M,fun b hb hf=>⟨hother b fun l e=>hf n (by simp [bZ]) l e.symm,fun _=>rfl⟩,by omega,fun m hm=> ?_,h1,h2,h3⟩
  ·have hb:(μ n).live=true→b≠(μ n).blk:=fun l e=>by rw [e,hmn l] at hm;cases hm
   rw [← hS.mem b i x hm]
   unfold World.cell?
   rw [hother b hb]
  ·rw [bZ] at hm
   split at hm
   ·rename_i e
    subst e
    simp at hm
    subst hm
    exact ⟨.inl hp,hob'.more hpk (fun _ _=>rfl) (Mem.le_refl M) fun _=>rfl,hmn⟩
   ·cases hm
  ·rw [bZ] at hm hm'
   split at hm <;> split at hm' <;> first | omega | simp at hm hm'
  ·rw [bZ] at hm
   split at hm
   ·rename_i e
    subst e
    exact .inr ⟨by omega,by simp [bZ]⟩
   ·simp at hm
 rcases hr with hr | ⟨hr,rfl⟩
 ·exact gr hr key
 ·exact zl hr key
end
end
section
def dx (P:Program)(t:TypeId):Option (Option Nat):=
 match P.underlying t,P.info? t with
 | some (.struct _),some i=>some (some i.size)
 | some (.array _ _),some i=>some (some i.size)
 | some _,some _=>some none
 | _,_=>none
def fh (P:Program)(t:TypeId):Option (List SV):=
 match P.info? t with
 | some i=>match i.zero with
  | some z=>IC z.cells.toList
  | none=>none
 | none=>none
section
variable {P:Program} {w:World}
theorem wO {t:TypeId}{i:TypeInfo}(h:P.info? t=some i):(typeInfo t).run P w= .ok i w:=by simp [typeInfo,h]
theorem dm {t:TypeId}{i:TypeInfo}(h:P.info? t=some i):(sizeOf t).run P w= .ok i.size w:=by simp [sizeOf,wO h]
theorem oW {t:TypeId}{i:TypeInfo}{z:Value}(h:P.info? t=some i)(hz:i.zero=some z):(zeroValue t).run P w= .ok z w:=by simp [zeroValue,wO h,hz]
theorem qm {t:TypeId}(h:dx P t=some none):(isAgg t).run P w= .ok false w:=by
 unfold dx at h
 cases hu:P.underlying t with
 | none=>simp [hu] at h
 | some d=>
  rw [hu] at h
  simp only [isAgg,Sem.run_bind,run_underlying hu,Result.andThen_ok]
  cases hi:P.info? t <;> rw [hi] at h <;> cases d <;> simp at h ⊢
theorem jB {t:TypeId}{n:Nat}(h:dx P t=some (some n)):(isAgg t).run P w= .ok true w∧(sizeOf t).run P w= .ok n w:=by
 unfold dx at h
 cases hu:P.underlying t with
 | none=>simp [hu] at h
 | some d=>
  rw [hu] at h
  simp only [isAgg,Sem.run_bind,run_underlying hu,Result.andThen_ok]
  cases hi:P.info? t with
  | none=>rw [hi] at h;cases d <;> simp at h
  | some i=>
   rw [hi] at h
   have hs:(sizeOf t).run P w= .ok i.size w:=dm hi
   cases d <;> simp at h ⊢ <;> (subst h;exact hs)
theorem rK {t:TypeId}{a:Addr}{v:Value}(h:dx P t=some none)(hc:w.cell? a=some v):(loadVar t a).run P w= .ok v w:=by
 simp only [loadVar,Sem.run_bind,qm h,Result.andThen_ok,Bool.false_eq_true,if_false,run_load,hc]
theorem rL {t:TypeId}{a:Addr}{cs:List Value}(h:dx P t=some (some cs.length))(hc:∀ (j:Nat) (v:Value),cs[j]? =some v→w.cell? (a.add j)=some v):
  (loadVar t a).run P w= .ok (.agg cs.toArray) w:=by
 simp only [loadVar,Sem.run_bind,(jB h).1,(jB h).2,Result.andThen_ok,if_true,run_loadCells_list w a cs hc,Sem.run_pure]
theorem dz (b o n:Nat):Addr.add ⟨b,o,none⟩ n=⟨b,o+n,none⟩:=Addr.add_lit b o n
theorem cell_of {b:Nat}{vs:Array Value}{t:TypeId}{fr:Nat×Nat}(h:w.heap[b]? =some (.cells vs t fr))(i:Nat):w.cell? ⟨b,i,none⟩=vs[i]? :=by
 simp [World.cell?,h]
theorem fG {t:TypeId}{z:List SV}(h:fh P t=some z){p:Nat→Prop}{μ:Nat→Nm}{M:Mem}:∃ (v:Value),(∀ w:World,(zeroValue t).run P w= .ok v w)∧aR p μ M z v.cells.toList∧z.all SV.dG=true:=by
 unfold fh at h
 split at h
 ·rename_i i hi
  split at h
  ·rename_i z' hz
   obtain ⟨a,b⟩:=zk (p:=p) (μ:=μ) (M:=M) h
   exact ⟨z',fun w=>oW hi hz,a,b⟩
  ·cases h
 ·cases h
theorem bK.one {p:Nat→Prop}{μ:Nat→Nm}{M:Mem}{n:Nat}{ob:Ob}(h:bK p μ M (lk [(n,ob)]) w):p n∧bW p μ M w (μ n) ob∧((μ n).live=true→∀ o,M (μ n).blk o=none):=h.obs n ob (by simp [bZ])
def fU (H:Nat→Option Ob):SV→Option (List SV×Nat×Hp)
 | .ptr n off=>match H n with
  | some (.box t cs)=>some (cs,off,[(n,.box t cs)])
  | some (.arr e sz len cs)=>some (cs,off,[(n,.arr e sz len cs)])
  | _=>none
 | .vp cs i=>some (cs.map .d,i,[])
 | _=>none
theorem rq {H:Nat→Option Ob}{s:SV}{cs:List SV}{off:Nat}{F:Hp}(h:fU H s=some (cs,off,F)):∀ n ob,lk F n=some ob→H n=some ob:=by
 intro n ob hn
 unfold fU at h
 split at h
 ·split at h <;> simp at h <;> rename_i hh <;> obtain ⟨_,_,rfl⟩:=h <;> rw [bZ] at hn <;> split at hn <;> simp at hn <;> subst_vars <;> exact hh
 ·simp at h
  obtain ⟨_,_,rfl⟩:=h
  simp [bt] at hn
 ·cases h
theorem ox {H:Nat→Option Ob}{s:SV}{cs:List SV}{off:Nat}{F:Hp}(h:fU H s=some (cs,off,F)){p:Nat→Prop}{μ:Nat→Nm}{M:Mem}{v:Value}
  (hv:Rp p μ M s v) (hS:bK p μ M (lk F) w):∃ b o,v= .pointer (some ⟨b,o+off,none⟩)∧∀ (i:Nat) (c:SV),cs[i]? =some c→∃ u,w.cell? ⟨b,o+i,none⟩=some u∧Rp p μ M c u:=by
 unfold fU at h
 split at h
 ·rename_i n off'
  have hv':=hv.rep
  simp only [cI] at hv'
  split at h
  ·rename_i t cs' hh
   simp at h
   obtain ⟨rfl,rfl,rfl⟩:=h
   obtain ⟨_,⟨_,vs,hb,hr⟩,_⟩:=hS.one
   refine ⟨(μ n).blk,0,by rw [hv'];simp,fun i c hi=> ?_⟩
   obtain ⟨u,hu,hc⟩:=hr.get hi
   exact ⟨u,by rw [cell_of hb];simpa using hu,hc⟩
  ·rename_i e sz len cs' hh
   simp at h
   obtain ⟨rfl,rfl,rfl⟩:=h
   obtain ⟨_,⟨_,_,rfl⟩ | ⟨_,vs,hb,_,_,_,_,hr⟩,_⟩:=hS.one
   ·exact ⟨(μ n).blk,0,by rw [hv'];simp,fun i c hi=>by simp at hi⟩
   refine ⟨(μ n).blk,0,by rw [hv'];simp,fun i c hi=> ?_⟩
   obtain ⟨u,hu,hc⟩:=hr.get hi
   refine ⟨u,?_,hc⟩
   rw [cell_of hb]
   rw [List.getElem?_take] at hu
   split at hu
   ·simpa using hu
   ·cases hu
  ·cases h
 ·rename_i cs' i'
  simp at h
  obtain ⟨rfl,rfl,rfl⟩:=h
  obtain ⟨b,o,rfl,hr⟩:=(by simpa [cI] using hv.rep:∃ b o,v= .pointer (some ⟨b,o+i',none⟩)∧cQ M b o cs')
  refine ⟨b,o,rfl,fun i c hi=> ?_⟩
  rw [List.getElem?_map] at hi
  obtain ⟨x,hx,rfl⟩:=Option.map_eq_some_iff.1 hi
  obtain ⟨u,hu,hd⟩:=hr.get hx
  exact ⟨u,hS.mem b _ u hu,Rp.cu.2 hd⟩
 ·cases h
def zm (cs:List SV)(off:Nat):Option Nat→Option SV
 | none=>cs[off]?
 | some m=>some (.agg ((cs.drop off).take m))
def wP (cs:List SV)(off:Nat):Option Nat→Prop
 | none=>True
 | some m=>off+m≤cs.length
theorem zn {t:TypeId}{sz:Option Nat}(ht:dx P t=some sz){cs:List SV}{off b o:Nat}{s:SV}(h:zm cs off sz=some s)(hle:wP cs off sz){p:Nat→Prop}{μ:Nat→Nm}{M:Mem}
  (hc:∀ (i:Nat) (c:SV),cs[i]? =some c→∃ u,w.cell? ⟨b,o+i,none⟩=some u∧Rp p μ M c u):∃ v,(loadVar t ⟨b,o+off,none⟩).run P w= .ok v w∧Rp p μ M s v:=by
 cases sz with
 | none=>
  obtain ⟨u,hu,hr⟩:=hc off s h
  exact ⟨u,rK ht hu,hr⟩
 | some m=>
  simp only [wP] at hle
  ·simp [zm] at h
   subst h
   have key:∀ (l:List SV) (q:Nat),(∀ (i:Nat) (c:SV),l[i]? =some c→∃ u,w.cell? ⟨b,q+i,none⟩=some u∧Rp p μ M c u)→
     ∃ vs:List Value,aR p μ M l vs∧∀ (j:Nat) (u:Value),vs[j]? =some u→w.cell? ⟨b,q+j,none⟩=some u:=by
    intro l
    induction l with
    | nil=>intro q _;exact ⟨[],aR.aP.2 rfl,fun j u h=>by simp at h⟩
    | cons c l ih=>
     intro q hq
     obtain ⟨u,hu,hr⟩:=hq 0 c rfl
     obtain ⟨vs,hvs,hcs⟩:=ih (q+1) fun i c' hi=>by
      have:=hq (i+1) c' (by simpa using hi)
      rwa [show q+(i+1)=q+1+i by omega] at this
     refine ⟨u::vs,aR.aF.2 ⟨u,vs,rfl,hr,hvs⟩,fun j x hj=> ?_⟩
     cases j with
     | zero=>simp at hj;subst hj;simpa using hu
     | succ j=>
      have:=hcs j x (by simpa using hj)
      rwa [show q+1+j=q+(j+1) by omega] at this
   obtain ⟨vs,hvs,hcell⟩:=key ((cs.drop off).take m) (o+off) fun i c hi=>by
    rw [List.getElem?_take] at hi
    split at hi
    ·rw [List.getElem?_drop] at hi
     have:=hc (off+i) c hi
     rwa [show o+(off+i)=o+off+i by omega] at this
    ·cases hi
   have hlen:vs.length=m:=by
    rw [hvs.length,List.length_take,List.length_drop];omega
   subst hlen
   exact ⟨.agg vs.toArray,rL ht fun j u hj=>by rw [dz];exact hcell j u hj,Rp.ez.2 ⟨vs.toArray,rfl,by simpa using hvs⟩⟩
def cU (cs:List SV)(o:Nat):List SV→List SV
 | [c]=>cs.set o c
 | vs=>cs.take o++vs++cs.drop (o+vs.length)
def oq (cs:List Value)(o:Nat)(vs:List Value):List Value:=cs.take o++vs++cs.drop (o+vs.length)
theorem uC {α:Type}:∀ (cs:List α) (o:Nat) (c:α),o<cs.length→cs.set o c=cs.take o++[c]++cs.drop (o+1)
 | [],o,c,h=>by simp at h
 | x::xs,0,c,_=>by simp
 | x::xs,o+1,c,h=>by
  have:=uC xs o c (by simpa using h)
  simp [this]
theorem qn {cs vs:List SV}{o:Nat}(h:o+vs.length≤cs.length):cU cs o vs=cs.take o++vs++cs.drop (o+vs.length):=by
 unfold cU
 split
 ·rename_i c
  simp only [List.length_singleton] at h ⊢
  exact uC cs o c (by omega)
 ·rfl
theorem aR.cU {p:Nat→Prop}{μ:Nat→Nm}{M:Mem}{cs ds:List SV}{vs us:List Value}{o:Nat}(h:aR p μ M cs vs)(k:aR p μ M ds us)(hl:o+ds.length≤cs.length):aR p μ M (cU cs o ds) (oq vs o us):=by
 rw [qn hl]
 unfold oq
 rw [k.length]
 exact ((h.take o).append k).append (h.drop _)
theorem qo:∀ (cs:List Value) (k:Nat) (u:Value) (us:List Value),k<cs.length→oq (cs.set k u) (k+1) us=oq cs k (u::us)
 | [],k,u,us,h=>by simp at h
 | x::xs,0,u,us,_=>by simp [oq,Nat.add_comm]
 | x::xs,k+1,u,us,h=>by
  have:=qo xs k u us (by simpa using h)
  simp only [oq,List.length_cons] at this ⊢
  simp only [List.set_cons_succ,List.take_succ_cons,List.cons_append,List.cons.injEq,true_and]
  rw [show k+1+1+us.length=(k+1+us.length)+1 by omega,show k+1+(us.length+1)=(k+(us.length+1))+1 by omega,List.drop_succ_cons,List.drop_succ_cons]
  exact this
theorem gY {b:Nat}{t:TypeId}:∀ (us:List Value) (vs:Array Value) (w:World) (o i:Nat),w.heap[b]? =some (.cells vs t (0,0))→o+i+us.length≤vs.size→(∀ u∈us,u.oneCell'=true)→
  ∃ w',(storeCells ⟨b,o,none⟩ us i).run P w= .ok () w'∧w'.heap[b]? =some (.cells (oq vs.toList (o+i) us).toArray t (0,0))∧(∀ c,c≠b→w'.heap[c]? =w.heap[c]?)∧
   w'.heap.size=w.heap.size∧w'.os=w.os∧Tape w w'∧w'.output=w.output
 | [],vs,w,o,i,hb,_,_=>by
  refine ⟨w,by simp [storeCells],?_,fun _ _=>rfl,rfl,rfl,Tape.refl _,rfl⟩
  simp [oq,hb]
 | u ::us,vs,w,o,i,hb,hl,h1=>by
  simp only [List.length_cons] at hl
  have hlt:o+i<vs.size:=by omega
  have hc:w.cell? ⟨b,o+i,none⟩=some vs[o+i]:=by rw [cell_of hb,Array.getElem?_eq_getElem hlt]
  have hz:w.frozen? ⟨b,o+i,none⟩=false:=by simp [World.frozen?,hb]
  have hs:(store ⟨b,o+i,none⟩ u).run P w= .ok () (w.setCell ⟨b,o+i,none⟩ u):=by
   rw [run_store P w _ u .plain (h1 u (by simp))]
   simp [hc,hz]
  have hb':(w.setCell ⟨b,o+i,none⟩ u).heap[b]? =some (.cells (vs.setIfInBounds (o+i) u) t (0,0)):=by
   simp [World.setCell,Array.getElem?_modify,hb]
  obtain ⟨w',hr,h2,h3,h4,h5,h6,h7⟩:=gY us (vs.setIfInBounds (o+i) u) (w.setCell ⟨b,o+i,none⟩ u) o (i+1) hb' (by simp;omega) fun x hx=>h1 x (by simp [hx])
  refine ⟨w',?_,?_,fun c hc=>(h3 c hc).trans (Below.heap_setCell w _ u c (by simpa using hc)),by simpa using h4,h5,h6,h7⟩
  ·simp only [storeCells,dz,Sem.run_bind,hs,Result.andThen_ok,hr]
  ·rw [h2]
   congr 3
   rw [Array.toList_setIfInBounds,show o+(i+1)=o+i+1 by omega]
   exact qo vs.toList (o+i) u us (by simpa using hlt)
end
end
section
def EB:Bool→Value→Value→Option Bool
 | true,.int k a,.int k' b=>if k=k' then some (a == b) else none
 | false,.bool a,.bool b=>some (a == b)
 | _,_,_=>none
def dU:List Bool→List Value→List Value→Option Bool
 | [],[],[]=>some true
 | k::ks,x::xs,y::ys=>match EB k x y,dU ks xs ys with
  | some a,some b=>some (a && b)
  | _,_=>none
 | _,_,_=>none
theorem gL:∀ {ks:List Bool} {xs ys:List Value} {b:Bool},dU ks xs ys=some b→xs.length=ks.length∧ys.length=ks.length
 | [],[],[],_,_=>⟨rfl,rfl⟩
 | [],[],_::_,_,h=>by simp [dU] at h
 | [],_::_,_,_,h=>by simp [dU] at h
 | _::_,[],_,_,h=>by simp [dU] at h
 | _::_,_::_,[],_,h=>by simp [dU] at h
 | k ::ks,x::xs,y::ys,b,h=>by
  simp only [dU] at h
  split at h
  ·rename_i h2
   have:=gL h2
   simp [this.1,this.2]
  ·cases h
theorem oZ {k:Bool}{x y:Value}{b:Bool}(h:dU [k] [x] [y]=some b):EB k x y=some b:=by
 simp only [dU] at h
 split at h
 ·rename_i a b' h1 h2
  simp at h h2
  subst h;subst h2
  simpa using h1
 ·cases h
theorem oH:∀ {k1 k2:List Bool} {xs ys:List Value} {b:Bool},dU (k1++k2) xs ys=some b→
  ∃ b1 b2,dU k1 (xs.take k1.length) (ys.take k1.length)=some b1∧dU k2 (xs.drop k1.length) (ys.drop k1.length)=some b2∧b=(b1 && b2)
 | [],k2,xs,ys,b,h=>⟨true,b,by simp [dU],by simpa using h,by simp⟩
 | k::k1,k2,[],ys,b,h=>by simp [dU] at h
 | k::k1,k2,x::xs,[],b,h=>by simp [dU] at h
 | k ::k1,k2,x::xs,y::ys,b,h=>by
  simp only [List.cons_append,dU] at h
  split at h
  ·rename_i a b' h1 h2
   simp at h
   subst h
   obtain ⟨b1,b2,e1,e2,rfl⟩:=oH h2
   refine ⟨a && b1,b2,?_,by simpa using e2,by simp [Bool.and_assoc]⟩
   simp [dU,h1,e1]
  ·cases h
def lJ (f:TypeId→Option (List Bool)):Nat→List Field→Option (List Bool)
 | _,[]=>some []
 | o,x::xs=>if x.name= "_" ∨x.offset≠o then none else match f x.type with
  | some ks=>match lJ f (o+ks.length) xs with
   | some r=>some (ks++r)
   | none=>none
  | none=>none
def rep (n:Nat)(ks:List Bool):List Bool:=match n with
 | 0=>[]
 | n+1=>ks++rep n ks
def bk (P:Program):Nat→TypeId→Option (List Bool)
 | 0,_=>none
 | d +1,t=>match P.underlying t,P.info? t with
  | some .bool,some i=>if i.size=1 then some [false] else none
  | some (.int _),some i=>if i.size=1 then some [true] else none
  | some (.struct fs),some i=>if P.stoodInHeld t then none else match lJ (bk P d) 0 fs.toList with
   | some ks=>if ks.length=i.size then some ks else none
   | none=>none
  | some (.array n e),some i=>match bk P d e with
   | some ks=>if n*ks.length=i.size then some (rep n ks) else none
   | none=>none
  | _,_=>none
theorem lK (n:Nat)(ks:List Bool):(rep n ks).length=n*ks.length:=by
 induction n with
 | zero=>simp [rep]
 | succ n ih=>simp [rep,ih,Nat.add_mul,Nat.add_comm]
def valOf (P:Program)(t:TypeId)(l:List Value):Value:=
 match dx P t with
 | some (some _)=> .agg l.toArray
 | _=>l.headD undef
section
variable {P:Program} {w:World}
theorem jx {d:Nat}{t:TypeId}{ks:List Bool}(h:bk P d t=some ks):dx P t=some none∧ks.length=1∨dx P t=some (some ks.length):=by
 cases d with
 | zero=>simp [bk] at h
 | succ d=>
  simp only [bk] at h
  split at h
  ·rename_i i h1 h2
   simp at h;obtain ⟨_,rfl⟩:=h
   exact .inl ⟨by simp [dx,h1,h2],rfl⟩
  ·rename_i k i h1 h2
   simp at h;obtain ⟨_,rfl⟩:=h
   exact .inl ⟨by simp [dx,h1,h2],rfl⟩
  ·rename_i fs i h1 h2
   split at h
   ·cases h
   ·split at h
    ·split at h
     ·rename_i hl
      simp at h;subst h
      exact .inr (by simp [dx,h1,h2,hl])
     ·cases h
    ·cases h
  ·rename_i n e i h1 h2
   split at h
   ·split at h
    ·rename_i hl
     simp at h;subst h
     exact .inr (by simp [dx,h1,h2,lK,hl])
    ·cases h
   ·cases h
  ·cases h
theorem kL {d:Nat}{t:TypeId}{ks:List Bool}(h:bk P d t=some ks)(cs:List Value)(o:Nat)(hl:o+ks.length≤cs.length):
  (part t cs.toArray o).run P w= .ok (valOf P t ((cs.drop o).take ks.length)) w:=by
 rcases jx h with ⟨h1,h2⟩ | h1
 ·have ho:o<cs.length:=by omega
  have e:(List.take 1 (List.drop o cs)).headD undef=cs[o]:=by rw [List.drop_eq_getElem_cons ho];rfl
  simp only [part,Sem.run_bind,qm h1,Result.andThen_ok,Bool.false_eq_true,if_false,valOf,h1,h2,e]
  simp [ho]
 ·simp only [part,Sem.run_bind,(jB h1).1,(jB h1).2,Result.andThen_ok,if_true,Sem.run_pure,valOf,h1]
  congr 2
  apply Array.ext'
  simp
theorem vH (d:Nat)(ih:∀ (t:TypeId) (ks:List Bool) (xs ys:List Value) (b:Bool),bk P d t=some ks→dU ks xs ys=some b→(Op.equalIn d t (valOf P t xs) (valOf P t ys)).run P w= .ok b w)
  (xs ys:List Value):∀ (fs:List Field) (o:Nat) (ks:List Bool) (b:Bool),lJ (bk P d) o fs=some ks→dU ks (xs.drop o) (ys.drop o)=some b→o≤xs.length→o≤ys.length→
   (Op.eqFields d xs.toArray ys.toArray fs).run P w= .ok b w:=by
 intro fs
 induction fs with
 | nil=>
  intro o ks b h hb _ _
  simp [lJ] at h
  subst h
  have:=gL hb
  cases hx:xs.drop o <;> cases hy:ys.drop o <;> rw [hx,hy] at hb <;> simp [dU] at hb
  subst hb
  simp [Op.eqFields]
 | cons f fs ihf=>
  intro o ks b h hb hox hoy
  simp only [lJ] at h
  split at h
  ·cases h
  ·rename_i hno
   simp only [not_or,ne_eq,Decidable.not_not] at hno
   split at h
   ·rename_i ks1 h1
    split at h
    ·rename_i ks2 h2
     simp at h
     subst h
     obtain ⟨b1,b2,e1,e2,rfl⟩:=oH hb
     have l1:=gL e1
     have hx:o+ks1.length≤xs.length:=by have:=l1.1;simp at this;omega
     have hy:o+ks1.length≤ys.length:=by have:=l1.2;simp at this;omega
     simp only [List.drop_drop] at e2
     have hr:=ihf (o+ks1.length) ks2 b2 h2 e2 hx hy
     simp only [Op.eqFields,ne_eq,hno.1,not_false_eq_true,if_true,Sem.run_bind,hno.2,kL h1 xs o hx,kL h1 ys o hy,Result.andThen_ok,ih f.type ks1 _ _ b1 h1 e1]
     cases b1
     ·simp
     ·simpa using hr
    ·cases h
   ·cases h
theorem lM {d:Nat}{t:TypeId}{ks:List Bool}(h:bk P d t=some ks):∃ i,P.info? t=some i∧i.size=ks.length:=by
 cases d with
 | zero=>simp [bk] at h
 | succ d=>
  simp only [bk] at h
  split at h
  ·rename_i i h1 h2
   simp at h;obtain ⟨h3,rfl⟩:=h
   exact ⟨i,h2,h3⟩
  ·rename_i k i h1 h2
   simp at h;obtain ⟨h3,rfl⟩:=h
   exact ⟨i,h2,h3⟩
  ·rename_i fs i h1 h2
   split at h
   ·cases h
   ·split at h
    ·split at h
     ·rename_i hl
      simp at h;subst h
      exact ⟨i,h2,hl.symm⟩
     ·cases h
    ·cases h
  ·rename_i n e i h1 h2
   split at h
   ·split at h
    ·rename_i hl
     simp at h;subst h
     exact ⟨i,h2,by rw [lK,hl]⟩
    ·cases h
   ·cases h
  ·cases h
theorem EM (d:Nat)(ih:∀ (t:TypeId) (ks:List Bool) (xs ys:List Value) (b:Bool),bk P d t=some ks→dU ks xs ys=some b→(Op.equalIn d t (valOf P t xs) (valOf P t ys)).run P w= .ok b w)
  {e:TypeId} {ks:List Bool} (he:bk P d e=some ks) (xs ys:List Value):∀ (n k:Nat) (b:Bool),dU (rep n ks) (xs.drop (k*ks.length)) (ys.drop (k*ks.length))=some b→
   (k+n)*ks.length≤xs.length→(k+n)*ks.length≤ys.length→
   (forIn (m:=Sem) (List.range' k n) ((none,()):Option Bool×Unit) fun i _=>do
    let a ← part e xs.toArray (i*ks.length)
    let c ← part e ys.toArray (i*ks.length)
    let r ← Op.equalIn d e a c
    if (!r)=true then pure (ForInStep.done (some false,())) else pure (ForInStep.yield (none,()))).run P w= .ok (if b then (none,()) else (some false,())) w:=by
 intro n
 induction n with
 | zero=>
  intro k b hb _ _
  simp only [rep] at hb
  have hl:=gL hb
  cases hx:xs.drop (k*ks.length) <;> cases hy:ys.drop (k*ks.length) <;> rw [hx,hy] at hb <;> simp [dU] at hb
  subst hb
  simp
 | succ n ihn=>
  intro k b hb hx hy
  simp only [rep] at hb
  obtain ⟨b1,b2,e1,e2,rfl⟩:=oH hb
  have hx':k*ks.length+ks.length≤xs.length:=by
   have:(k+(n+1))*ks.length=k*ks.length+ks.length+n*ks.length:=by rw [Nat.add_mul,Nat.add_mul];omega
   omega
  have hy':k*ks.length+ks.length≤ys.length:=by
   have:(k+(n+1))*ks.length=k*ks.length+ks.length+n*ks.length:=by rw [Nat.add_mul,Nat.add_mul];omega
   omega
  have hk:k*ks.length+ks.length=(k+1)*ks.length:=by rw [Nat.add_mul];omega
  simp only [List.drop_drop,hk] at e2
  have hr:=ihn (k+1) b2 e2 (by rwa [show k+1+n=k+(n+1) by omega]) (by rwa [show k+1+n=k+(n+1) by omega])
  simp only [List.range'_succ,List.forIn_cons,Sem.run_bind,kL he xs _ hx',kL he ys _ hy',Result.andThen_ok,ih e ks _ _ b1 he e1]
  cases b1
  ·simp
  ·simpa using hr
theorem ru:∀ (d:Nat) (t:TypeId) (ks:List Bool) (xs ys:List Value) (b:Bool),bk P d t=some ks→dU ks xs ys=some b→(Op.equalIn d t (valOf P t xs) (valOf P t ys)).run P w= .ok b w:=by
 intro d
 induction d with
 | zero=>intro t ks xs ys b h;simp [bk] at h
 | succ d ih=>
  intro t ks xs ys b h hb
  have hl:=gL hb
  have hsz:=jx h
  simp only [bk] at h
  split at h
  ·rename_i i h1 h2
   simp at h;obtain ⟨_,rfl⟩:=h
   have ht:dx P t=some none:=by simp [dx,h1,h2]
   match xs,ys,hl with
   | [x],[y],_=>
    simp only [valOf,ht,List.headD_cons]
    have hb:=oZ hb
    cases x <;> cases y <;> simp [EB] at hb
    subst hb
    rw [run_equalIn_bool w d t _ _ h1]
  ·rename_i k i h1 h2
   simp at h;obtain ⟨_,rfl⟩:=h
   have ht:dx P t=some none:=by simp [dx,h1,h2]
   match xs,ys,hl with
   | [x],[y],_=>
    simp only [valOf,ht,List.headD_cons]
    have hb:=oZ hb
    cases x <;> cases y <;> simp [EB] at hb
    obtain ⟨rfl,rfl⟩:=hb
    exact run_equalIn_int w d t _ k _ _ h1
  ·rename_i fs i h1 h2
   split at h
   ·cases h
   ·rename_i hst
    split at h
    ·rename_i ks' h3
     split at h
     ·rename_i hsize
      simp at h;subst h
      have ht:dx P t=some (some i.size):=by simp [dx,h1,h2]
      simp only [valOf,ht]
      have hf:P.fieldsOf t=fs:=by simp [Program.fieldsOf,h1]
      rw [run_equalIn_struct w d t _ _ (by rw [hf];exact h1) (by simpa using hst),hf]
      exact vH d ih xs ys fs.toList 0 ks' b h3 (by simpa using hb) (by omega) (by omega)
     ·cases h
    ·cases h
  ·rename_i n e i h1 h2
   split at h
   ·rename_i ks' h3
    split at h
    ·rename_i hsize
     simp at h;subst h
     have ht:dx P t=some (some i.size):=by simp [dx,h1,h2]
     simp only [valOf,ht]
     simp only [Op.equalIn,Sem.run_bind,run_underlying h1,Result.andThen_ok]
     obtain ⟨i',hi',hs'⟩:=lM h3
     rw [dm hi',hs']
     simp only [Result.andThen_ok]
     have hlen:∀ l:List Value,l.length=(rep n ks').length→n*ks'.length≤l.length:=fun l h=>by rw [h,lK];exact Nat.le_refl _
     have:=EM d ih h3 xs ys n 0 b (by simpa using hb) (by simpa using hlen xs hl.1) (by simpa using hlen ys hl.2)
     simp only [Std.Legacy.Range.forIn_eq_forIn_range',Std.Legacy.Range.size,Nat.sub_zero,Nat.add_one_sub_one,Nat.div_one,this]
     cases b <;> simp
    ·cases h
   ·cases h
  ·cases h
end
end
section
def EC:Bool→SV→SV→Option Bool
 | true,.d (.int k a),.d (.int k' b)=>if k=k' then some (a == b) else none
 | false,.d (.bool a),.d (.bool b)=>some (a == b)
 | _,_,_=>none
def iA:List Bool→List SV→List SV→Option Bool
 | [],[],[]=>some true
 | k::ks,x::xs,y::ys=>match EC k x y,iA ks xs ys with
  | some a,some b=>some (a && b)
  | _,_=>none
 | _,_,_=>none
def vI (op:BinOp)(k:IntKind)(a b:Int):Option (SV×Prop):=
 match op with
 | .add=>some (.d (.int k (k.wrap (a+b))),True)
 | .sub=>some (.d (.int k (k.wrap (a - b))),True)
 | .mul=>some (.d (.int k (k.wrap (a*b))),True)
 | .quo=>some (.d (.int k (k.wrap (a.tdiv b))),b≠0)
 | .rem=>some (.d (.int k (a.tmod b)),b≠0)
 | .and=>some (.d (.int k (bits .and k a b)),True)
 | .or=>some (.d (.int k (bits .or k a b)),True)
 | .xor=>some (.d (.int k (bits .xor k a b)),True)
 | .andNot=>some (.d (.int k (bits .andNot k a b)),True)
 | .shl=>some (.d (.int k (k.wrap (a*2 ^ b.toNat))),0≤b∧b≤k.bits)
 | .shr=>some (.d (.int k (a / 2 ^ b.toNat)),0≤b∧b≤k.bits)
 | .eql=>some (.d (.bool (a == b)),True)
 | .neq=>some (.d (.bool (a != b)),True)
 | .lss=>some (.d (.bool (decide (a<b))),True)
 | .leq=>some (.d (.bool (decide (a≤b))),True)
 | .gtr=>some (.d (.bool (decide (a>b))),True)
 | .geq=>some (.d (.bool (decide (a≥b))),True)
def vJ (op:BinOp)(k k':IntKind):Bool:=k == k' || op matches .shl || op matches .shr
def mD (cells:List SV):List (Nat×Nat×SV)→Option (List SV×Prop)
 | []=>some (cells,True)
 | (off,n,s)::r=>if s.cells.all SV.dG then match mD (cU cells off s.cells) r with
   | some (cs,ob)=>some (cs,s.cells.length=n∧off+n≤cells.length∧ob)
   | none=>none
  else none
def wQ (E:Nat→Option SV):List (Nat×Nat×X)→Option (List (Nat×Nat×SV))
 | []=>some []
 | (o,n,x)::r=>match ev E x,wQ E r with
  | some s,some ss=>some ((o,n,s)::ss)
  | _,_=>none
def eH:List SV→Option (List DV)
 | []=>some []
 | .d x::r=>match eH r with
  | some xs=>some (x::xs)
  | none=>none
 | _::_=>none
def ED (n:Nat):SV→Option SV
 | .ptr m o=>some (.ptr m (o+n))
 | .vp cs i=>some (.vp cs (i+n))
 | _=>none
def vK (H:Nat→Option Ob)(e sz:Nat):Option SV→Option (Nat×List SV×Hp×(Nat→Prop))
 | some (.d .aU)=>some (0,[],[],fun _=>True)
 | some (.gs n len)=>match H n with
  | some (.arr e' sz' len' cs)=>some (len,cs,[(n,.arr e' sz' len' cs)],fun _=>e'=e∧sz'=sz∧len'=len)
  | _=>none
 | _=>none
def uh (H:Nat→Option Ob):Option SV→Option (Nat×List SV×Hp×Prop)
 | some (.d .aU)=>some (0,[],[],True)
 | some (.d (.sl m xs))=>some (m,xs.map .d,[],True)
 | some (.gs n m)=>match H n with
  | some (.arr e' sz' len' cs)=>some (m,cs,[(n,.arr e' sz' len' cs)],len'=m)
  | _=>none
 | _=>none
def j_:SV→Bool
 | .agg _=>true
 | _=>false
def gZ (ks:List Bool)(agg:Bool)(key:SV):Bool:=j_ key == agg && (iA ks key.cells key.cells).isSome
def g_ (ks:List Bool)(agg:Bool)(key:SV):List (Nat×SV×SV)→Nat→Option (Option Nat)
 | [],_=>some none
 | e ::r,i=>if gZ ks agg e.2.1 then match iA ks key.cells e.2.1.cells with
   | some true=>some (some i)
   | some false=>g_ ks agg key r (i+1)
   | none=>none
  else none
def mq (es:List (Nat×SV×SV))(c:Nat)(key v:SV):Option Nat→Ob
 | some i=> .map (es.modify i fun e=>(e.1,e.2.1,v)) c
 | none=> .map (es++[(c,key,v)]) (c+1)
def wR (es:List (Nat×SV×SV))(c:Nat):Option Nat→Ob
 | some i=> .map (es.eraseIdx i) c
 | none=> .map es c
def wS (es:List (Nat×SV×SV))(c:Nat):Option Nat→Nat
 | some i=>match es[i]? with
  | some e=>e.1
  | none=>0
 | none=>c
def o6 (es:List (Nat×SV×SV))(c:Nat)(key z:SV):Option Nat→Ob
 | some _=> .map es c
 | none=> .map (es++[(c,key,z)]) (c+1)
def fH (es:List (Nat×SV×SV))(z:SV):Option Nat→SV
 | some i=>match es[i]? with
  | some e=>e.2.2
  | none=>z
 | none=>z
def kf (ok:Bool)(v:SV)(b:Bool):SV:=if ok then .dM [v,.d (.bool b)] else v
def cZ (E : Nat→Option SV)(H:Nat→Option Ob)(k:Nat)(own:Bool):SO→Option kH
  | .mv x=>match ev E x with
    | some s=>some ⟨s,[],[],0,True⟩
    | none=>none
  | .pick c a b=>match ev E c with
    | some (.d (.bool true))=>match ev E a with
      | some s=>some ⟨s,[],[],0,True⟩
      | none=>none
    | some (.d (.bool false))=>match ev E b with
      | some s=>some ⟨s,[],[],0,True⟩
      | none=>none
    | _=>none
  | .alloc t z=>some ⟨.ptr k 0,[],[(k,.box t z)],1,True⟩
  | .box t x=>match ev E x with
    | some s=>if s.cells.all SV.dG then some ⟨.ptr k 0,[],[(k,.box t s.cells)],1,True⟩ else none
    | none=>none
  | .load sz x=>match ev E x with
    | some s=>match fU H s with
      | some (cs,off,F)=>match zm cs off sz with
        | some v=>some ⟨v,F,F,0,wP cs off sz⟩
        | none=>none
      | none=>none
    | none=>none
  | .store sz x v=>match ev E x,ev E v with
    | some (.ptr n off),some s=>if s.cells.all SV.dG then match H n with
        | some (.box t cs)=>some ⟨.any,[(n,.box t cs)],[(n,.box t (cU cs off s.cells))],0,s.cells.length=sz∧off+sz≤cs.length⟩
        | some (.arr e z l cs)=>some ⟨.any,[(n,.arr e z l cs)],[(n,.arr e z l (cU cs off s.cells))],0,s.cells.length=sz∧off+sz≤cs.length∧0<sz⟩
        | _=>none
      else none
    | _,_=>none
  | .aV off x=>match ev E x with
    | some s=>match ED off s with
      | some v=>some ⟨v,[],[],0,True⟩
      | none=>none
    | none=>none
  | .qk len sz x i=>match ev E x,ev E i with
    | some s,some (.d (.int _ m))=>match ED (m.toNat*sz) s with
      | some v=>some ⟨v,[],[],0,0≤m∧m<(len:Int)⟩
      | none=>none
    | _,_=>none
  | .ew sz x i=>match ev E x,ev E i with
    | some (.d (.sl n cs)),some (.d (.int _ m))=>some ⟨.vp cs (m.toNat*sz),[],[],0,0≤m∧m<(n:Int)⟩
    | some (.gs n len),some (.d (.int _ m))=>some ⟨.ptr n (m.toNat*sz),[],[],0,0≤m∧m<(len:Int)⟩
    | some (.bs n off len),some (.d (.int _ m))=>some ⟨.ptr n (off+m.toNat*sz),[],[],0,0≤m∧m<(len:Int)⟩
    | _,_=>none
  | .field off sz x=>match ev E x with
    | some (.agg cs)=>match zm cs off sz with
      | some v=>some ⟨v,[],[],0,wP cs off sz⟩
      | none=>none
    | _=>none
  | .index len sz agg x i=>match ev E x,ev E i with
    | some (.agg cs),some (.d (.int _ m))=>match zm cs (m.toNat*sz) (if agg then some sz else none) with
      | some v=>some ⟨v,[],[],0,(0≤m∧m<(len:Int))∧wP cs (m.toNat*sz) (if agg then some sz else none)⟩
      | none=>none
    | _,_=>none
  | .bin op x y=>match ev E x,ev E y with
    | some (.d (.int k a)),some (.d (.int k' b))=>if vJ op k k' then match vI op k a b with
        | some (v,ob)=>some ⟨v,[],[],0,ob⟩
        | none=>none
      else none
    | _,_=>none
  | .eqv neg ks x y=>match ev E x,ev E y with
    | some (.agg s),some (.agg s')=>match iA ks s s' with
      | some b=>some ⟨.d (.bool (bif neg then !b else b)),[],[],0,True⟩
      | none=>none
    | _,_=>none
  | .qh neg x y=>match ev E x,ev E y with
    | some (.d (.bool s)),some (.d (.bool s'))=>some ⟨.d (.bool (bif neg then !(s == s') else s == s')),[],[],0,True⟩
    | _,_=>none
  | .gX neg kd x=>match kd,ev E x with
    | 0,some (.d .jt) | 1,some (.d .jl) | 2,some (.d .fS) | 3,some (.d .aU)=>some ⟨.d (.bool !neg),[],[],0,True⟩
    | 0,some (.ptr _ _) | 2,some (.fn _ _ _)=>some ⟨.d (.bool neg),[],[],0,True⟩
    | 1,some (.mp n)=>match H n with
      | some (.map es c)=>some ⟨.d (.bool neg),[(n,.map es c)],[(n,.map es c)],0,True⟩
      | some .fu=>some ⟨.d (.bool !neg),[(n,.fu)],[(n,.fu)],0,True⟩
      | _=>none
    | 0,some (.vp _ _)=>some ⟨.d (.bool neg),[],[],0,True⟩
    | 3,some (.gs _ n)=>some ⟨.d (.bool neg),[],[],0,n≠0⟩
    | _,_=>none
  | .not x=>match ev E x with
    | some (.d (.bool b))=>some ⟨.d (.bool !b),[],[],0,True⟩
    | _=>none
  | .conv k x=>match ev E x with
    | some (.d (.int _ n))=>some ⟨.d (.int k (k.wrap n)),[],[],0,True⟩
    | _=>none
  | .ext i x=>match ev E x with
    | some (.dM cs)=>match cs[i]? with
      | some v=>some ⟨v,[],[],0,True⟩
      | none=>none
    | _=>none
  | .d_ x=>match ev E x with
    | some (.ptr n o)=>some ⟨.ptr n o,[],[],0,True⟩
    | some (.vp cs i)=>some ⟨.vp cs i,[],[],0,True⟩
    | _=>none
  | .fE z parts=>match wQ E parts with
    | some ps=>match mD z ps with
      | some (cs,ob)=>some ⟨.agg cs,[],[],0,ob⟩
      | none=>none
    | none=>none
  | .oU e sz len z parts=>match wQ E parts with
    | some ps=>match mD z ps with
      | some (cs,ob)=>if cs.all SV.dG then
          if own || len == 0 then some ⟨.gs k len,[],[(k,.arr e sz len cs)],1,ob⟩
          else match eH cs with
            | some ds=>some ⟨.d (.sl len ds),[],[],0,ob⟩
            | none=>some ⟨.gs k len,[],[(k,.arr e sz len cs)],1,ob⟩
        else none
      | none=>none
    | none=>none
  | .slc sz x lo hi=>match ev E x with
    | some (.d (.sl n cs))=>match (match lo with | some l=>ev E l | none=>some (.d (.int .i64 0))),(match hi with | some h=>ev E h | none=>some (.d (.int .i64 n))) with
      | some (.d (.int _ l)),some (.d (.int _ h))=>some ⟨.d (.sl (h.toNat - l.toNat) ((cs.drop (l.toNat*sz)).take ((h.toNat - l.toNat)*sz))),[],[],0,0≤l∧l≤h∧h≤(n:Int)∧cs.length=n*sz⟩
      | _,_=>none
    | some (.d .aU)=>match (match lo with | some l=>ev E l | none=>some (.d (.int .i64 0))),(match hi with | some h=>ev E h | none=>some (.d (.int .i64 0))) with
      | some (.d (.int _ l)),some (.d (.int _ h))=>some ⟨.d .aU,[],[],0,l=0∧h=0⟩
      | _,_=>none
    | some (.gs n len)=>match H n with
      | some (.arr e z len' cs)=>match lo,(match hi with | some h=>ev E h | none=>some (.d (.int .i64 len))) with
        | none,some (.d (.int _ h))=>some ⟨.gs n h.toNat,[(n,.arr e z len' cs)],[(n,.arr e z len' cs)],0,0≤h∧h≤(len:Int)∧len'=len⟩
        | some l,some (.d (.int _ h))=>match ev E l with
          | some (.d (.int _ l))=>some ⟨.bs n (l.toNat*sz) (h.toNat - l.toNat),[(n,.arr e z len' cs)],[(n,.arr e z len' cs)],0,0≤l∧l<h∧h≤(len:Int)∧len'=len⟩
          | _=>none
        | _,_=>none
      | _=>none
    | _=>none
  | .GY n sz x lo hi=>match ev E x,(match lo with | some l=>ev E l | none=>some (.d (.int .i64 0))),(match hi with | some h=>ev E h | none=>some (.d (.int .i64 n))) with
    | some (.ptr m off),some (.d (.int _ l)),some (.d (.int _ h))=>some ⟨.bs m (off+l.toNat*sz) (h.toNat - l.toNat),[],[],0,0≤l∧l≤h∧h≤(n:Int)⟩
    | _,_,_=>none
  | .GZ x h m=>match ev E x,ev E h,ev E m with
    | some (.d (.sl n cs)),some (.d (.int _ h)),some (.d (.int _ m))=>some ⟨.d (.sl n cs),[],[],0,h=(n:Int)∧m=(n:Int)⟩
    | some (.d .aU),some (.d (.int _ h)),some (.d (.int _ m))=>some ⟨.d .aU,[],[],0,h=0∧m=0⟩
    | _,_,_=>none
  | .lens x=>match ev E x with
    | some (.d (.str s))=>some ⟨.d (.int .i64 s.length),[],[],0,True⟩
    | _=>none
  | .EK x i=>match ev E x,ev E i with
    | some (.d (.str s)),some (.d (.int _ n))=>some ⟨.d (.int .u8 ((s.getD n.toNat 0:Nat):Int)),[],[],0,0≤n∧n<(s.length:Int)⟩
    | _,_=>none
  | .neg x=>match ev E x with
    | some (.d (.int k n))=>some ⟨.d (.int k (k.wrap (-n))),[],[],0,True⟩
    | _=>none
  | .len x=>match ev E x with
    | some (.d (.sl n _))=>some ⟨.d (.int .i64 n),[],[],0,True⟩
    | some (.d .aU)=>some ⟨.d (.int .i64 0),[],[],0,True⟩
    | some (.gs _ n)=>some ⟨.d (.int .i64 n),[],[],0,True⟩
    | some (.bs _ _ n)=>some ⟨.d (.int .i64 n),[],[],0,True⟩
    | _=>none
  | .G0 x=>match ev E x with
    | some (.d .jl)=>some ⟨.d (.int .i64 0),[],[],0,True⟩
    | some (.mp n)=>match H n with
      | some (.map es c)=>some ⟨.d (.int .i64 es.length),[(n,.map es c)],[(n,.map es c)],0,True⟩
      | some .fu=>some ⟨.d (.int .i64 0),[(n,.fu)],[(n,.fu)],0,True⟩
      | _=>none
    | _=>none
  | .look ks agg z m i ok=>match ev E m,ev E i with
    | some (.d .jl),some key=>if gZ ks agg key then some ⟨kf ok z false,[],[],0,True⟩ else none
    | some (.mp n),some key=>match H n with
      | some (.map es c)=>if gZ ks agg key then match g_ ks agg key es 0 with
          | some r=>some ⟨kf ok (fH es z r) r.isSome,[(n,.map es c)],[(n,.map es c)],0,True⟩
          | none=>none
        else none
      | some .fu=>if gZ ks agg key then some ⟨kf ok z false,[(n,.fu)],[(n,.fu)],0,True⟩ else none
      | _=>none
    | _,_=>none
  | .sF ks agg m i v=>match ev E m,ev E i,ev E v with
    | some (.mp n),some key,some s=>match H n with
      | some (.map es c)=>if gZ ks agg key then match g_ ks agg key es 0 with
          | some r=>some ⟨.any,[(n,.map es c)],[(n,mq es c key s r)],0,True⟩
          | none=>none
        else none
      | _=>none
    | _,_,_=>none
  | .rj ks agg z m i=>match ev E m,ev E i with
    | some (.mp n),some key=>match H n with
      | some (.map es c)=>if gZ ks agg key then match g_ ks agg key es 0 with
          | some r=>some ⟨.dM [fH es z r,.d (.int .i64 (wS es c r))],[(n,.map es c)],[(n,o6 es c key z r)],0,True⟩
          | none=>none
        else none
      | _=>none
    | _,_=>none
  | .rm m s x=>match ev E m,ev E s,ev E x with
    | some (.mp n),some (.d (.int _ b)),some v=>match H n with
      | some (.map es c)=>match es.findIdx? (fun e=>(e.1:Int) == b) with
        | some j=>some ⟨.any,[(n,.map es c)],[(n,.map (es.modify j fun e=>(e.1,e.2.1,v)) c)],0,True⟩
        | none=>none
      | _=>none
    | _,_,_=>none
  | .IS sz z x=>match ev E x with
    | some (.bs n off len)=>match H n with
      | some (.arr e z' l cs)=>some ⟨.any,[(n,.arr e z' l cs)],[(n,.arr e z' l (cU cs off ((List.replicate len z).flatten)))],0,0<len∧off+len*sz≤cs.length⟩
      | _=>none
    | _=>none
  | .EL ks agg m i=>match ev E m,ev E i with
    | some (.d .jl),some key=>if gZ ks agg key then some ⟨.any,[],[],0,True⟩ else none
    | some (.mp n),some key=>match H n with
      | some (.map es c)=>if gZ ks agg key then match g_ ks agg key es 0 with
          | some r=>some ⟨.any,[(n,.map es c)],[(n,wR es c r)],0,True⟩
          | none=>none
        else none
      | some .fu=>if gZ ks agg key then some ⟨.any,[(n,.fu)],[(n,.fu)],0,True⟩ else none
      | _=>none
    | _,_=>none
  | .lI m=>match ev E m with
    | some (.d .jl)=>some ⟨.it k,[],[(k,.iter none 0 [] 0)],1,True⟩
    | some (.mp n)=>match H n with
      | some (.map es c)=>some ⟨.it k,[(n,.map es c)],[(n,.map es c),(k,.iter (some n) c [] c)],1,True⟩
      | some .fu=>some ⟨.it k,[(n,.fu)],[(n,.fu),(k,.iter none 0 [] 0)],1,True⟩
      | _=>none
    | _=>none
  | .mI x =>match ev E x with
    | some (.it n)=>match H n with
      | some (.iter (some m) since seen st)=>match H m with
        | some (.map es c)=>match seen.getLast? with
          | some stamp=>match es.find? (fun e=>e.1 == stamp) with
            | some e=>some ⟨.dM [e.2.1,e.2.2],[(n,.iter (some m) since seen st),(m,.map es c)],[(n,.iter (some m) since seen st),(m,.map es c)],0,c=st∧n≠m⟩
            | none=>none
          | none=>none
        | _=>none
      | _=>none
    | _=>none
  | .mx x y=>match ev E x,ev E y with
    | some (.d (.int k a)),some (.d (.int _ b))=>some ⟨.d (.int k (if b>a then b else a)),[],[],0,True⟩
    | _,_=>none
  | .mn x y=>match ev E x,ev E y with
    | some (.d (.int k a)),some (.d (.int _ b))=>some ⟨.d (.int k (if b<a then b else a)),[],[],0,True⟩
    | _,_=>none
  | .sE f first cap=>match oG E first,oG E cap with
    | some a,some c=>some ⟨.fn f a c,[],[],0,True⟩
    | _,_=>none
  | .zj=>some ⟨.mp k,[],[(k,.map [] 0)],1,True⟩
  | .copy e sz d x=>match ev E d,ev E x with
    | some (.bs n off len),some (.bs m off' len')=>match H n,H m with
      | some (.box t cs),some (.box t' cs')=>if cs'.all SV.dG then some ⟨.d (.int .i64 len),[(n,.box t cs),(m,.box t' cs')],[(n,.box t (cU cs off ((cs'.drop off').take (len*sz)))),(m,.box t' cs')],0,n≠m∧0<len∧off+len*sz≤cs.length∧off'+len*sz≤cs'.length∧len=len'⟩ else none
      | _,_=>none
    | _,_=>none
  | .app e sz bytes s x=>match vK H e sz (ev E s),uh H (ev E x) with
    | some (n,cs,F,ob),some (m,news,F2,EN)=>
      if news.all SV.dG then some ⟨.gs k (n+m),F++F2,(k,.arr e sz (n+m) (cs++news))::F2,1,ob m∧EN∧n+m≤9223372036854775807∧(n+m)*bytes≤140737488355328∧news.length=m*sz∧((F.map (·.1)).all fun a=>(F2.map (·.1)).all fun b=>a != b)=true⟩
      else none
    | _,_=>none
  | .Kl e sz bytes z len cap=>match ev E len,ev E cap with
    | some (.d (.int _ l)),some (.d (.int _ c))=>some ⟨.gs k l.toNat,[],[(k,.arr e sz l.toNat ((List.replicate l.toNat z).flatten))],1,0≤l∧l≤c∧c≤9223372036854775807∧bytes*c≤281474976710656⟩
    | _,_=>none
  | _=>none
def La (P:Program)(t:TypeId):Option (Nat×TypeId):=match P.underlying t with
 | some (.slice e)=>match P.info? e with
  | some i=>some (i.size,e)
  | none=>none
 | _=>none
def kg (pl:Nat→Option (Nat×Nat)):List (Nat×Operand)→Option (List (Nat×Nat×X))
 | []=>some []
 | (i,o)::r=>match pl i,cX o,kg pl r with
  | some (off,n),some x,some r'=>some ((off,n,x)::r')
  | _,_,_=>none
def o7 (P:Program)(fs:Array Field)(i:Nat):Option (Nat×Nat):=match fs[i]? with
 | some f=>match P.info? f.type with
  | some j=>some (f.offset,j.size)
  | none=>none
 | none=>none
def ko:Option Operand→Option (Option X)
 | none=>some none
 | some o=>(cX o).map some
def BE (sz:Option Nat)(n:Nat):Bool:=match sz with
 | none=>true
 | some m=>m == n
def isEq:BinOp→Bool
 | .eql | .neq=>true
 | _=>false
def dO:BinOp→Bool
 | .neq=>true
 | _=>false
def wT (P:Program)(t:TypeId)(y:Operand):Option Nat:=match P.underlying t,y with
 | some (.pointer _),.const (.pointer none)=>some 0
 | some (.map _ _),.const (.map none)=>some 1
 | some (.func _ _ _),.const .nilFunc=>some 2
 | some (.slice _),.const (.slice none 0 0)=>some 3
 | _,_=>none
def uD (P:Program)(t:TypeId):Option SV:=match P.info? t with
 | some i=>match i.zero with
  | some z=>cV z
  | none=>none
 | none=>none
def mu (P:Program)(t:TypeId):Bool:=match dx P t with
 | some (some _)=>true
 | _=>false
def cO (P :Program):Op→Option SO
  | .move x | .assign x=>(cX x).map .mv
  | .pick c a b=>match cX c,cX a,cX b with
    | some c,some a,some b=>some (.pick c a b)
    | _,_,_=>none
  | .alloc t=>(fh P t).map (.alloc t)
  | .box t x=>(cX x).map (.box t)
  | .load t x=>match cX x,dx P t with
    | some y,some sz=>some (.load sz y)
    | _,_=>none
  | .store t x v=>match cX x,cX v,P.info? t with
    | some x,some v,some i=>some (.store i.size x v)
    | _,_,_=>none
  | .nilCheck x=>(cX x).map .d_
  | .binOp op t x y _=>
    if isEq op then
      match P.underlying t with
      | some (.int _)=>match cX x,cX y with
        | some x,some y=>some (.bin op x y)
        | _,_=>none
      | some .bool=>match cX x,cX y with
        | some x,some y=>some (.qh (dO op) x y)
        | _,_=>none
      | some (.struct _) | some (.array _ _)=>match cX x,cX y,bk P 10000 t with
        | some x,some y,some ks=>if P.eqGuardType P.depth t then none else some (.eqv (dO op) ks x y)
        | _,_,_=>none
      | _=>match wT P t y,cX x with
        | some kd,some x=>some (.gX (dO op) kd x)
        | _,_=>none
    else match cX x,cX y with
      | some x,some y=>some (.bin op x y)
      | _,_=>none
  | .unOp .not _ x=>(cX x).map .not
  | .unOp .neg _ x=>(cX x).map .neg
  | .convert src dst x=>match P.underlying src,P.underlying dst,cX x with
    | some (.int _),some (.int k),some x=>some (.conv k x)
    | _,_,_=>none
  | .fieldAddr s x f=>match P.underlying s,cX x with
    | some (.struct fs),some x=>match fs[f]? with
      | some f=>match P.info? f.type with
        | some i=>if i.size=0 then none else some (.aV f.offset x)
        | none=>none
      | none=>none
    | _,_=>none
  | .field t x f=>match P.underlying t,cX x with
    | some (.struct fs),some x=>match fs[f]? with
      | some f=>match dx P f.type with
        | some sz=>some (.field f.offset sz x)
        | none=>none
      | none=>none
    | _,_=>none
  | .indexAddr t x i=>match P.underlying t,cX x,cX i with
    | some (.array n e),some x,some i=>match P.info? e with
      | some j=>some (.qk n j.size x i)
      | none=>none
    | some (.slice e),some x,some i=>match P.info? e with
      | some j=>some (.ew j.size x i)
      | none=>none
    | _,_,_=>none
  | .index t x i=>match P.underlying t,cX x,cX i with
    | some (.array n e),some x,some i=>match P.info? e,dx P e with
      | some j,some sz=>if BE sz j.size then some (.index n j.size sz.isSome x i) else none
      | _,_=>none
    | some .string,some x,some i=>some (.EK x i)
    | _,_,_=>none
  | .extract x i=>(cX x).map (.ext i)
  | .build t parts=>match P.underlying t,fh P t with
    | some (.struct fs),some z=>if fs.all (fun f=>(P.info? f.type).isSome) then (kg (o7 P fs) parts.toList).map (.fE z) else none
    | some (.array _ e),some z=>match P.info? e with
      | some j=>(kg (fun i=>some (i*j.size,j.size)) parts.toList).map (.fE z)
      | none=>none
    | _,_=>none
  | .buildSlice t len parts=>match P.underlying t with
    | some (.slice e)=>match P.info? e,fh P e with
      | some j,some z=>if (len*j.size≤16777216∧len≤16777216)∧z.length=j.size then (kg (fun i=>some (i*j.size,j.size)) parts.toList).map (.oU e j.size len ((List.replicate len z).flatten)) else none
      | _,_=>none
    | _=>none
  | .slice t x none (some h) (some m)=>match P.underlying t,cX x,cX h,cX m with
    | some (.slice e),some x,some h,some m=>match P.info? e with
      | some _=>some (.GZ x h m)
      | none=>none
    | _,_,_,_=>none
  | .slice t x lo hi none=>match P.underlying t,cX x,ko lo,ko hi with
    | some (.slice e),some x,some lo,some hi=>match P.info? e with
      | some j=>some (.slc j.size x lo hi)
      | none=>none
    | some (.array n e),some x,some lo,some hi=>match P.info? e with
      | some j=>some (.GY n j.size x lo hi)
      | none=>none
    | _,_,_,_=>none
  | .makeFunc f first cap=>match Bv first.toList,Bv cap.toList with
    | some a,some c=>some (.sE f a c)
    | _,_=>none
  | .makeMap t none=>some .zj
  | .makeSlice t l c=>match P.underlying t,cX l,cX c with
    | some (.slice e),some l,some c=>match P.info? e,fh P e with
      | some i,some z=>if z.length=i.size∧0<i.size then some (.Kl e i.size i.bytes z l c) else none
      | _,_=>none
    | _,_,_=>none
  | .lookup t m i ok=>match P.underlying t,cX m,cX i with
    | some (.map kt et),some m,some i=>match bk P 10000 kt,uD P et with
      | some ks,some z=>some (.look ks (mu P kt) z m i ok)
      | _,_=>none
    | _,_,_=>none
  | .mapUpdate t m i v | .insert t m i v=>match P.underlying t,cX m,cX i,cX v with
    | some (.map kt et),some m,some i,some v=>match bk P 10000 kt with
      | some ks=>some (.sF ks (mu P kt) m i v)
      | none=>none
    | _,_,_,_=>none
  | .mapEntry t m i=>match P.underlying t,cX m,cX i with
    | some (.map kt et),some m,some i=>match bk P 10000 kt,uD P et with
      | some ks,some z=>some (.rj ks (mu P kt) z m i)
      | _,_=>none
    | _,_,_=>none
  | .entryStore t m s x=>match cX m,cX s,cX x with
    | some m,some s,some x=>some (.rm m s x)
    | _,_,_=>none
  | .range t m=>match P.underlying t,cX m with
    | some (.map _ _),some m=>some (.lI m)
    | _,_=>none
  | .next it s=>if s then none else (cX it).map .jY
  | .entry it=>(cX it).map .mI
  | .call c=>match c.callee,c.args.toList,c.argTypes.toList with
    | .builtin .len,[x],[t]=>match P.underlying t,cX x with
      | some (.slice _),some x=>some (.len x)
      | some (.map _ _),some x=>some (.G0 x)
      | some .string,some x=>some (.lens x)
      | _,_=>none
    | .builtin .clear,[x],[t]=>match P.underlying t,cX x with
      | some (.slice e),some x=>match P.info? e,fh P e with
        | some i,some z=>if z.length=i.size∧0<i.size then some (.IS i.size z x) else none
        | _,_=>none
      | _,_=>none
    | .builtin .copy,[x,y],[t,_]=>match P.underlying t,cX x,cX y with
      | some (.slice e),some x,some y=>match P.info? e with
        | some i=>some (.copy e i.size x y)
        | none=>none
      | _,_,_=>none
    | .builtin .delete,[m,i],[t,t']=>match P.underlying t,cX m,cX i with
      | some (.map kt et),some m,some i=>match bk P 10000 kt with
        | some ks=>some (.EL ks (mu P kt) m i)
        | none=>none
      | _,_,_=>none
    | .builtin .append,[x,y],[t,t']=>if t=t' then match P.underlying t,cX x,cX y with
        | some (.slice e),some x,some y=>match P.info? e,fh P e with
          | some i,some z=>if z.length=i.size∧0<i.size then some (.app e i.size i.bytes x y) else none
          | _,_=>none
        | _,_,_=>none
      else none
    | .value f,args,_=>match cX f,Bv args with
      | some f,some args=>some (.call f args)
      | _,_=>none
    | .builtin .max,[x,y],_=>match cX x,cX y with
      | some x,some y=>some (.mx x y)
      | _,_=>none
    | .builtin .min,[x,y],_=>match cX x,cX y with
      | some x,some y=>some (.mn x y)
      | _,_=>none
    | _,_,_=>none
  | _=>none
end
end Go.Sl
