/-
 What an operation gives (shadow), read off the program's own operation; and that the machine does so: all but append, maps, calls.
-/
import Derived.Test.YtefjaphfnkbbkaaU1
set_option linter.unusedSimpArgs false
set_option linter.unusedSectionVars false
set_option linter.unusedVariables false
namespace Go.Sl
open Go.RowKit
section
def DI:Bool→SV→SV→Option Bool
 | true,.d (.int k a),.d (.int k' b)=>if k=k' then some (a == b) else none
 | false,.d (.bool a),.d (.bool b)=>some (a == b)
 | _,_,_=>none
def iu:List Bool→List SV→List SV→Option Bool
 | [],[],[]=>some true
 | k::ks,x::xs,y::ys=>match DI k x y,iu ks xs ys with
  | some a,some b=>some (a && b)
  | _,_=>none
 | _,_,_=>none
def tH (op:BinOp)(k:IntKind)(a b:Int):Option (SV×Prop):=
 match op with
 | .add=>some (.d (.int k (k.wrap (a+b))),True)
 | .sub=>some (.d (.int k (k.wrap (a - b))),True)
 | .mul=>some (.d (.int k (k.wrap (a*b))),True)
 | .quo=>some (.d (.int k (k.wrap (a.tdiv b))),b≠0)
 | .rem=>some (.d (.int k (a.tmod b)),b≠0)
 | .and=>some (.d (.int k (bits .and k a b)),True)
 | .or=>some (.d (.int k (bits .or k a b)),True)
 | .xor=>some (.d (.int k (bits .xor k a b)),True)
 | .andNot=>some (.d (.int k (bits .andNot k a b)),True)
 | .shl=>some (.d (.int k (k.wrap (a*2 ^ b.toNat))),0≤b∧b≤k.bits)
 | .shr=>some (.d (.int k (a / 2 ^ b.toNat)),0≤b∧b≤k.bits)
 | .eql=>some (.d (.bool (a == b)),True)
 | .neq=>some (.d (.bool (a != b)),True)
 | .lss=>some (.d (.bool (decide (a<b))),True)
 | .leq=>some (.d (.bool (decide (a≤b))),True)
 | .gtr=>some (.d (.bool (decide (a>b))),True)
 | .geq=>some (.d (.bool (decide (a≥b))),True)
def tI (op:BinOp)(k k':IntKind):Bool:=k == k' || op matches .shl || op matches .shr
def kL (cells:List SV):List (Nat×Nat×SV)→Option (List SV×Prop)
 | []=>some (cells,True)
 | (off,n,s)::r=>if s.cells.all SV.cL then match kL (bE cells off s.cells) r with
   | some (cs,ob)=>some (cs,s.cells.length=n∧off+n≤cells.length∧ob)
   | none=>none
  else none
def vU (E:Nat→Option SV):List (Nat×Nat×X)→Option (List (Nat×Nat×SV))
 | []=>some []
 | (o,n,x)::r=>match ev E x,vU E r with
  | some s,some ss=>some ((o,n,s)::ss)
  | _,_=>none
def dF:List SV→Option (List DV)
 | []=>some []
 | .d x::r=>match dF r with
  | some xs=>some (x::xs)
  | none=>none
 | _::_=>none
def BC (n:Nat):SV→Option SV
 | .ptr m o=>some (.ptr m (o+n))
 | .vp cs i=>some (.vp cs (i+n))
 | _=>none
def tJ (H:Nat→Option Ob)(e sz:Nat):Option SV→Option (Nat×List SV×Hp×(Nat→Prop))
 | some (.d .ay)=>some (0,[],[],fun _=>True)
 | some (.gs n len)=>match H n with
  | some (.arr e' sz' len' cs)=>some (len,cs,[(n,.arr e' sz' len' cs)],fun _=>e'=e∧sz'=sz∧len'=len)
  | _=>none
 | _=>none
def rG (H:Nat→Option Ob):Option SV→Option (Nat×List SV×Hp×Prop)
 | some (.d .ay)=>some (0,[],[],True)
 | some (.d (.sl m xs))=>some (m,xs.map .d,[],True)
 | some (.gs n m)=>match H n with
  | some (.arr e' sz' len' cs)=>some (m,cs,[(n,.arr e' sz' len' cs)],len'=m)
  | _=>none
 | _=>none
def jj:SV→Bool
 | .agg _=>true
 | _=>false
def gJ (ks:List Bool)(agg:Bool)(key:SV):Bool:=jj key == agg && (iu ks key.cells key.cells).isSome
def gL (ks:List Bool)(agg:Bool)(key:SV):List (Nat×SV×SV)→Nat→Option (Option Nat)
 | [],_=>some none
 | e ::r,i=>if gJ ks agg e.2.1 then match iu ks key.cells e.2.1.cells with
   | some true=>some (some i)
   | some false=>gL ks agg key r (i+1)
   | none=>none
  else none
def qy (es:List (Nat×SV×SV))(c:Nat)(key v:SV):Option Nat→Ob
 | some i=> .map (es.modify i fun e=>(e.1,e.2.1,v)) c
 | none=> .map (es++[(c,key,v)]) (c+1)
def v7 (es:List (Nat×SV×SV))(c:Nat):Option Nat→Ob
 | some i=> .map (es.eraseIdx i) c
 | none=> .map es c
def zo (es:List (Nat×SV×SV))(c:Nat):Option Nat→Nat
 | some i=>match es[i]? with
  | some e=>e.1
  | none=>0
 | none=>c
def qz (es:List (Nat×SV×SV))(c:Nat)(key z:SV):Option Nat→Ob
 | some _=> .map es c
 | none=> .map (es++[(c,key,z)]) (c+1)
def lP (es:List (Nat×SV×SV))(z:SV):Option Nat→SV
 | some i=>match es[i]? with
  | some e=>e.2.2
  | none=>z
 | none=>z
def jk (ok:Bool)(v:SV)(b:Bool):SV:=if ok then .cg [v,.d (.bool b)] else v
def cQ (E : Nat→Option SV)(H:Nat→Option Ob)(k:Nat)(own:Bool):SO→Option j4
  | .mv x=>match ev E x with
    | some s=>some ⟨s,[],[],0,True⟩
    | none=>none
  | .pick c a b=>match ev E c with
    | some (.d (.bool true))=>match ev E a with
      | some s=>some ⟨s,[],[],0,True⟩
      | none=>none
    | some (.d (.bool false))=>match ev E b with
      | some s=>some ⟨s,[],[],0,True⟩
      | none=>none
    | _=>none
  | .alloc t z=>some ⟨.ptr k 0,[],[(k,.box t z)],1,True⟩
  | .box t x=>match ev E x with
    | some s=>if s.cells.all SV.cL then some ⟨.ptr k 0,[],[(k,.box t s.cells)],1,True⟩ else none
    | none=>none
  | .load sz x=>match ev E x with
    | some s=>match fP H s with
      | some (cs,off,F)=>match x_ cs off sz with
        | some v=>some ⟨v,F,F,0,xT cs off sz⟩
        | none=>none
      | none=>none
    | none=>none
  | .store sz x v=>match ev E x,ev E v with
    | some (.ptr n off),some s=>if s.cells.all SV.cL then match H n with
        | some (.box t cs)=>some ⟨.any,[(n,.box t cs)],[(n,.box t (bE cs off s.cells))],0,s.cells.length=sz∧off+sz≤cs.length⟩
        | some (.arr e z l cs)=>some ⟨.any,[(n,.arr e z l cs)],[(n,.arr e z l (bE cs off s.cells))],0,s.cells.length=sz∧off+sz≤cs.length∧0<sz⟩
        | _=>none
      else none
    | _,_=>none
  | .aK off x=>match ev E x with
    | some s=>match BC off s with
      | some v=>some ⟨v,[],[],0,True⟩
      | none=>none
    | none=>none
  | .Bx len sz x i=>match ev E x,ev E i with
    | some s,some (.d (.int _ m))=>match BC (m.toNat*sz) s with
      | some v=>some ⟨v,[],[],0,0≤m∧m<(len:Int)⟩
      | none=>none
    | _,_=>none
  | .bJ sz x i=>match ev E x,ev E i with
    | some (.d (.sl n cs)),some (.d (.int _ m))=>some ⟨.vp cs (m.toNat*sz),[],[],0,0≤m∧m<(n:Int)⟩
    | some (.gs n len),some (.d (.int _ m))=>some ⟨.ptr n (m.toNat*sz),[],[],0,0≤m∧m<(len:Int)⟩
    | some (.bs n off len),some (.d (.int _ m))=>some ⟨.ptr n (off+m.toNat*sz),[],[],0,0≤m∧m<(len:Int)⟩
    | _,_=>none
  | .field off sz x=>match ev E x with
    | some (.agg cs)=>match x_ cs off sz with
      | some v=>some ⟨v,[],[],0,xT cs off sz⟩
      | none=>none
    | _=>none
  | .index len sz agg x i=>match ev E x,ev E i with
    | some (.agg cs),some (.d (.int _ m))=>match x_ cs (m.toNat*sz) (if agg then some sz else none) with
      | some v=>some ⟨v,[],[],0,(0≤m∧m<(len:Int))∧xT cs (m.toNat*sz) (if agg then some sz else none)⟩
      | none=>none
    | _,_=>none
  | .bin op x y=>match ev E x,ev E y with
    | some (.d (.int k a)),some (.d (.int k' b))=>if tI op k k' then match tH op k a b with
        | some (v,ob)=>some ⟨v,[],[],0,ob⟩
        | none=>none
      else none
    | _,_=>none
  | .eqv neg ks x y=>match ev E x,ev E y with
    | some (.agg s),some (.agg s')=>match iu ks s s' with
      | some b=>some ⟨.d (.bool (bif neg then !b else b)),[],[],0,True⟩
      | none=>none
    | _,_=>none
  | .nE neg x y=>match ev E x,ev E y with
    | some (.d (.bool s)),some (.d (.bool s'))=>some ⟨.d (.bool (bif neg then !(s == s') else s == s')),[],[],0,True⟩
    | _,_=>none
  | .ng neg kd x=>match kd,ev E x with
    | 0,some (.d .ow) | 1,some (.d .nC) | 2,some (.d .lV) | 3,some (.d .ay)=>some ⟨.d (.bool !neg),[],[],0,True⟩
    | 0,some (.ptr _ _) | 2,some (.fn _ _ _)=>some ⟨.d (.bool neg),[],[],0,True⟩
    | 1,some (.mp n)=>match H n with
      | some (.map es c)=>some ⟨.d (.bool neg),[(n,.map es c)],[(n,.map es c)],0,True⟩
      | some .fz=>some ⟨.d (.bool !neg),[(n,.fz)],[(n,.fz)],0,True⟩
      | _=>none
    | 0,some (.vp _ _)=>some ⟨.d (.bool neg),[],[],0,True⟩
    | 3,some (.gs _ n)=>some ⟨.d (.bool neg),[],[],0,n≠0⟩
    | _,_=>none
  | .not x=>match ev E x with
    | some (.d (.bool b))=>some ⟨.d (.bool !b),[],[],0,True⟩
    | _=>none
  | .conv k x=>match ev E x with
    | some (.d (.int _ n))=>some ⟨.d (.int k (k.wrap n)),[],[],0,True⟩
    | _=>none
  | .ext i x=>match ev E x with
    | some (.cg cs)=>match cs[i]? with
      | some v=>some ⟨v,[],[],0,True⟩
      | none=>none
    | _=>none
  | .qH x=>match ev E x with
    | some (.ptr n o)=>some ⟨.ptr n o,[],[],0,True⟩
    | some (.vp cs i)=>some ⟨.vp cs i,[],[],0,True⟩
    | _=>none
  | .fZ z parts=>match vU E parts with
    | some ps=>match kL z ps with
      | some (cs,ob)=>some ⟨.agg cs,[],[],0,ob⟩
      | none=>none
    | none=>none
  | .jL e sz len z parts=>match vU E parts with
    | some ps=>match kL z ps with
      | some (cs,ob)=>if cs.all SV.cL then
          if own || len == 0 then some ⟨.gs k len,[],[(k,.arr e sz len cs)],1,ob⟩
          else match dF cs with
            | some ds=>some ⟨.d (.sl len ds),[],[],0,ob⟩
            | none=>some ⟨.gs k len,[],[(k,.arr e sz len cs)],1,ob⟩
        else none
      | none=>none
    | none=>none
  | .slc sz x lo hi=>match ev E x with
    | some (.d (.sl n cs))=>match (match lo with | some l=>ev E l | none=>some (.d (.int .i64 0))),(match hi with | some h=>ev E h | none=>some (.d (.int .i64 n))) with
      | some (.d (.int _ l)),some (.d (.int _ h))=>some ⟨.d (.sl (h.toNat - l.toNat) ((cs.drop (l.toNat*sz)).take ((h.toNat - l.toNat)*sz))),[],[],0,0≤l∧l≤h∧h≤(n:Int)∧cs.length=n*sz⟩
      | _,_=>none
    | some (.d .ay)=>match (match lo with | some l=>ev E l | none=>some (.d (.int .i64 0))),(match hi with | some h=>ev E h | none=>some (.d (.int .i64 0))) with
      | some (.d (.int _ l)),some (.d (.int _ h))=>some ⟨.d .ay,[],[],0,l=0∧h=0⟩
      | _,_=>none
    | some (.gs n len)=>match H n with
      | some (.arr e z len' cs)=>match lo,(match hi with | some h=>ev E h | none=>some (.d (.int .i64 len))) with
        | none,some (.d (.int _ h))=>some ⟨.gs n h.toNat,[(n,.arr e z len' cs)],[(n,.arr e z len' cs)],0,0≤h∧h≤(len:Int)∧len'=len⟩
        | some l,some (.d (.int _ h))=>match ev E l with
          | some (.d (.int _ l))=>some ⟨.bs n (l.toNat*sz) (h.toNat - l.toNat),[(n,.arr e z len' cs)],[(n,.arr e z len' cs)],0,0≤l∧l<h∧h≤(len:Int)∧len'=len⟩
          | _=>none
        | _,_=>none
      | _=>none
    | _=>none
  | .FR n sz x lo hi=>match ev E x,(match lo with | some l=>ev E l | none=>some (.d (.int .i64 0))),(match hi with | some h=>ev E h | none=>some (.d (.int .i64 n))) with
    | some (.ptr m off),some (.d (.int _ l)),some (.d (.int _ h))=>some ⟨.bs m (off+l.toNat*sz) (h.toNat - l.toNat),[],[],0,0≤l∧l≤h∧h≤(n:Int)⟩
    | _,_,_=>none
  | .FT x h m=>match ev E x,ev E h,ev E m with
    | some (.d (.sl n cs)),some (.d (.int _ h)),some (.d (.int _ m))=>some ⟨.d (.sl n cs),[],[],0,h=(n:Int)∧m=(n:Int)⟩
    | some (.d .ay),some (.d (.int _ h)),some (.d (.int _ m))=>some ⟨.d .ay,[],[],0,h=0∧m=0⟩
    | _,_,_=>none
  | .lens x=>match ev E x with
    | some (.d (.str s))=>some ⟨.d (.int .i64 s.length),[],[],0,True⟩
    | _=>none
  | .FQ x i=>match ev E x,ev E i with
    | some (.d (.str s)),some (.d (.int _ n))=>some ⟨.d (.int .u8 ((s.getD n.toNat 0:Nat):Int)),[],[],0,0≤n∧n<(s.length:Int)⟩
    | _,_=>none
  | .neg x=>match ev E x with
    | some (.d (.int k n))=>some ⟨.d (.int k (k.wrap (-n))),[],[],0,True⟩
    | _=>none
  | .len x=>match ev E x with
    | some (.d (.sl n _))=>some ⟨.d (.int .i64 n),[],[],0,True⟩
    | some (.d .ay)=>some ⟨.d (.int .i64 0),[],[],0,True⟩
    | some (.gs _ n)=>some ⟨.d (.int .i64 n),[],[],0,True⟩
    | some (.bs _ _ n)=>some ⟨.d (.int .i64 n),[],[],0,True⟩
    | _=>none
  | .FU x=>match ev E x with
    | some (.d .nC)=>some ⟨.d (.int .i64 0),[],[],0,True⟩
    | some (.mp n)=>match H n with
      | some (.map es c)=>some ⟨.d (.int .i64 es.length),[(n,.map es c)],[(n,.map es c)],0,True⟩
      | some .fz=>some ⟨.d (.int .i64 0),[(n,.fz)],[(n,.fz)],0,True⟩
      | _=>none
    | _=>none
  | .look ks agg z m i ok=>match ev E m,ev E i with
    | some (.d .nC),some key=>if gJ ks agg key then some ⟨jk ok z false,[],[],0,True⟩ else none
    | some (.mp n),some key=>match H n with
      | some (.map es c)=>if gJ ks agg key then match gL ks agg key es 0 with
          | some r=>some ⟨jk ok (lP es z r) r.isSome,[(n,.map es c)],[(n,.map es c)],0,True⟩
          | none=>none
        else none
      | some .fz=>if gJ ks agg key then some ⟨jk ok z false,[(n,.fz)],[(n,.fz)],0,True⟩ else none
      | _=>none
    | _,_=>none
  | .Aj ks agg m i v=>match ev E m,ev E i,ev E v with
    | some (.mp n),some key,some s=>match H n with
      | some (.map es c)=>if gJ ks agg key then match gL ks agg key es 0 with
          | some r=>some ⟨.any,[(n,.map es c)],[(n,qy es c key s r)],0,True⟩
          | none=>none
        else none
      | _=>none
    | _,_,_=>none
  | .qp ks agg z m i=>match ev E m,ev E i with
    | some (.mp n),some key=>match H n with
      | some (.map es c)=>if gJ ks agg key then match gL ks agg key es 0 with
          | some r=>some ⟨.cg [lP es z r,.d (.int .i64 (zo es c r))],[(n,.map es c)],[(n,qz es c key z r)],0,True⟩
          | none=>none
        else none
      | _=>none
    | _,_=>none
  | .qq m s x=>match ev E m,ev E s,ev E x with
    | some (.mp n),some (.d (.int _ b)),some v=>match H n with
      | some (.map es c)=>match es.findIdx? (fun e=>(e.1:Int) == b) with
        | some j=>some ⟨.any,[(n,.map es c)],[(n,.map (es.modify j fun e=>(e.1,e.2.1,v)) c)],0,True⟩
        | none=>none
      | _=>none
    | _,_,_=>none
  | .Hv sz z x=>match ev E x with
    | some (.bs n off len)=>match H n with
      | some (.arr e z' l cs)=>some ⟨.any,[(n,.arr e z' l cs)],[(n,.arr e z' l (bE cs off ((List.replicate len z).flatten)))],0,0<len∧off+len*sz≤cs.length⟩
      | _=>none
    | _=>none
  | .DR ks agg m i=>match ev E m,ev E i with
    | some (.d .nC),some key=>if gJ ks agg key then some ⟨.any,[],[],0,True⟩ else none
    | some (.mp n),some key=>match H n with
      | some (.map es c)=>if gJ ks agg key then match gL ks agg key es 0 with
          | some r=>some ⟨.any,[(n,.map es c)],[(n,v7 es c r)],0,True⟩
          | none=>none
        else none
      | some .fz=>if gJ ks agg key then some ⟨.any,[(n,.fz)],[(n,.fz)],0,True⟩ else none
      | _=>none
    | _,_=>none
  | .rD m=>match ev E m with
    | some (.d .nC)=>some ⟨.it k,[],[(k,.iter none 0 [] 0)],1,True⟩
    | some (.mp n)=>match H n with
      | some (.map es c)=>some ⟨.it k,[(n,.map es c)],[(n,.map es c),(k,.iter (some n) c [] c)],1,True⟩
      | some .fz=>some ⟨.it k,[(n,.fz)],[(n,.fz),(k,.iter none 0 [] 0)],1,True⟩
      | _=>none
    | _=>none
  | .uY x =>match ev E x with
    | some (.it n)=>match H n with
      | some (.iter (some m) since seen st)=>match H m with
        | some (.map es c)=>match seen.getLast? with
          | some stamp=>match es.find? (fun e=>e.1 == stamp) with
            | some e=>some ⟨.cg [e.2.1,e.2.2],[(n,.iter (some m) since seen st),(m,.map es c)],[(n,.iter (some m) since seen st),(m,.map es c)],0,c=st∧n≠m⟩
            | none=>none
          | none=>none
        | _=>none
      | _=>none
    | _=>none
  | .mx x y=>match ev E x,ev E y with
    | some (.d (.int k a)),some (.d (.int _ b))=>some ⟨.d (.int k (if b>a then b else a)),[],[],0,True⟩
    | _,_=>none
  | .mn x y=>match ev E x,ev E y with
    | some (.d (.int k a)),some (.d (.int _ b))=>some ⟨.d (.int k (if b<a then b else a)),[],[],0,True⟩
    | _,_=>none
  | .xZ f first cap=>match qu E first,qu E cap with
    | some a,some c=>some ⟨.fn f a c,[],[],0,True⟩
    | _,_=>none
  | .DQ=>some ⟨.mp k,[],[(k,.map [] 0)],1,True⟩
  | .copy e sz d x=>match ev E d,ev E x with
    | some (.bs n off len),some (.bs m off' len')=>match H n,H m with
      | some (.box t cs),some (.box t' cs')=>if cs'.all SV.cL then some ⟨.d (.int .i64 len),[(n,.box t cs),(m,.box t' cs')],[(n,.box t (bE cs off ((cs'.drop off').take (len*sz)))),(m,.box t' cs')],0,n≠m∧0<len∧off+len*sz≤cs.length∧off'+len*sz≤cs'.length∧len=len'⟩ else none
      | _,_=>none
    | some (.gs n len),some (.d (.sl m cs))=>match H n with
      | some (.arr t sz' len' cs')=>some ⟨.d (.int .i64 len),[(n,.arr t sz' len' cs')],[(n,.arr t sz' len' (cs.map .d))],0,m=len∧len'=len∧sz'=sz∧0<sz∧cs.length=len*sz⟩
      | _=>none
    | _,_=>none
  | .app e sz bytes s x=>match tJ H e sz (ev E s),rG H (ev E x) with
    | some (n,cs,F,ob),some (m,news,F2,DT)=>
      if news.all SV.cL then some ⟨.gs k (n+m),F++F2,(k,.arr e sz (n+m) (cs++news))::F2,1,ob m∧DT∧n+m≤9223372036854775807∧(n+m)*bytes≤140737488355328∧news.length=m*sz∧((F.map (·.1)).all fun a=>(F2.map (·.1)).all fun b=>a != b)=true⟩
      else none
    | _,_=>none
  | .He e sz bytes z len cap=>match ev E len,ev E cap with
    | some (.d (.int _ l)),some (.d (.int _ c))=>some ⟨.gs k l.toNat,[],[(k,.arr e sz l.toNat ((List.replicate l.toNat z).flatten))],1,0≤l∧l≤c∧c≤9223372036854775807∧bytes*c≤281474976710656⟩
    | _,_=>none
  | _=>none
def Je (P:Program)(t:TypeId):Option (Nat×TypeId):=match P.underlying t with
 | some (.slice e)=>match P.info? e with
  | some i=>some (i.size,e)
  | none=>none
 | _=>none
def jV (pl:Nat→Option (Nat×Nat)):List (Nat×Operand)→Option (List (Nat×Nat×X))
 | []=>some []
 | (i,o)::r=>match pl i,cX o,jV pl r with
  | some (off,n),some x,some r'=>some ((off,n,x)::r')
  | _,_,_=>none
def oB (P:Program)(fs:Array Field)(i:Nat):Option (Nat×Nat):=match fs[i]? with
 | some f=>match P.info? f.type with
  | some j=>some (f.offset,j.size)
  | none=>none
 | none=>none
def jW:Option Operand→Option (Option X)
 | none=>some none
 | some o=>(cX o).map some
def BD (sz:Option Nat)(n:Nat):Bool:=match sz with
 | none=>true
 | some m=>m == n
def isEq:BinOp→Bool
 | .eql | .neq=>true
 | _=>false
def dG:BinOp→Bool
 | .neq=>true
 | _=>false
def v_ (P:Program)(t:TypeId)(y:Operand):Option Nat:=match P.underlying t,y with
 | some (.pointer _),.const (.pointer none)=>some 0
 | some (.map _ _),.const (.map none)=>some 1
 | some (.func _ _ _),.const .nilFunc=>some 2
 | some (.slice _),.const (.slice none 0 0)=>some 3
 | _,_=>none
def tT (P:Program)(t:TypeId):Option SV:=match P.info? t with
 | some i=>match i.zero with
  | some z=>cV z
  | none=>none
 | none=>none
def lQ (P:Program)(t:TypeId):Bool:=match dg P t with
 | some (some _)=>true
 | _=>false
def cO (P :Program):Op→Option SO
  | .move x | .assign x=>(cX x).map .mv
  | .pick c a b=>match cX c,cX a,cX b with
    | some c,some a,some b=>some (.pick c a b)
    | _,_,_=>none
  | .alloc t=>(fm P t).map (.alloc t)
  | .box t x=>(cX x).map (.box t)
  | .load t x=>match cX x,dg P t with
    | some y,some sz=>some (.load sz y)
    | _,_=>none
  | .store t x v=>match cX x,cX v,P.info? t with
    | some x,some v,some i=>some (.store i.size x v)
    | _,_,_=>none
  | .nilCheck x=>(cX x).map .qH
  | .binOp op t x y _=>
    if isEq op then
      match P.underlying t with
      | some (.int _)=>match cX x,cX y with
        | some x,some y=>some (.bin op x y)
        | _,_=>none
      | some .bool=>match cX x,cX y with
        | some x,some y=>some (.nE (dG op) x y)
        | _,_=>none
      | some (.struct _) | some (.array _ _)=>match cX x,cX y,a_ P 10000 t with
        | some x,some y,some ks=>if P.eqGuardType P.depth t then none else some (.eqv (dG op) ks x y)
        | _,_,_=>none
      | _=>match v_ P t y,cX x with
        | some kd,some x=>some (.ng (dG op) kd x)
        | _,_=>none
    else match cX x,cX y with
      | some x,some y=>some (.bin op x y)
      | _,_=>none
  | .unOp .not _ x=>(cX x).map .not
  | .unOp .neg _ x=>(cX x).map .neg
  | .convert src dst x=>match P.underlying src,P.underlying dst,cX x with
    | some (.int _),some (.int k),some x=>some (.conv k x)
    | _,_,_=>none
  | .fieldAddr s x f=>match P.underlying s,cX x with
    | some (.struct fs),some x=>match fs[f]? with
      | some f=>match P.info? f.type with
        | some i=>if i.size=0 then none else some (.aK f.offset x)
        | none=>none
      | none=>none
    | _,_=>none
  | .field t x f=>match P.underlying t,cX x with
    | some (.struct fs),some x=>match fs[f]? with
      | some f=>match dg P f.type with
        | some sz=>some (.field f.offset sz x)
        | none=>none
      | none=>none
    | _,_=>none
  | .indexAddr t x i=>match P.underlying t,cX x,cX i with
    | some (.array n e),some x,some i=>match P.info? e with
      | some j=>some (.Bx n j.size x i)
      | none=>none
    | some (.slice e),some x,some i=>match P.info? e with
      | some j=>some (.bJ j.size x i)
      | none=>none
    | _,_,_=>none
  | .index t x i=>match P.underlying t,cX x,cX i with
    | some (.array n e),some x,some i=>match P.info? e,dg P e with
      | some j,some sz=>if BD sz j.size then some (.index n j.size sz.isSome x i) else none
      | _,_=>none
    | some .string,some x,some i=>some (.FQ x i)
    | _,_,_=>none
  | .extract x i=>(cX x).map (.ext i)
  | .build t parts=>match P.underlying t,fm P t with
    | some (.struct fs),some z=>if fs.all (fun f=>(P.info? f.type).isSome) then (jV (oB P fs) parts.toList).map (.fZ z) else none
    | some (.array _ e),some z=>match P.info? e with
      | some j=>(jV (fun i=>some (i*j.size,j.size)) parts.toList).map (.fZ z)
      | none=>none
    | _,_=>none
  | .buildSlice t len parts=>match P.underlying t with
    | some (.slice e)=>match P.info? e,fm P e with
      | some j,some z=>if (len*j.size≤16777216∧len≤16777216)∧z.length=j.size then (jV (fun i=>some (i*j.size,j.size)) parts.toList).map (.jL e j.size len ((List.replicate len z).flatten)) else none
      | _,_=>none
    | _=>none
  | .slice t x none (some h) (some m)=>match P.underlying t,cX x,cX h,cX m with
    | some (.slice e),some x,some h,some m=>match P.info? e with
      | some _=>some (.FT x h m)
      | none=>none
    | _,_,_,_=>none
  | .slice t x lo hi none=>match P.underlying t,cX x,jW lo,jW hi with
    | some (.slice e),some x,some lo,some hi=>match P.info? e with
      | some j=>some (.slc j.size x lo hi)
      | none=>none
    | some (.array n e),some x,some lo,some hi=>match P.info? e with
      | some j=>some (.FR n j.size x lo hi)
      | none=>none
    | _,_,_,_=>none
  | .makeFunc f first cap=>match Br first.toList,Br cap.toList with
    | some a,some c=>some (.xZ f a c)
    | _,_=>none
  | .makeMap t none=>some .DQ
  | .makeSlice t l c=>match P.underlying t,cX l,cX c with
    | some (.slice e),some l,some c=>match P.info? e,fm P e with
      | some i,some z=>if z.length=i.size∧0<i.size then some (.He e i.size i.bytes z l c) else none
      | _,_=>none
    | _,_,_=>none
  | .lookup t m i ok=>match P.underlying t,cX m,cX i with
    | some (.map kt et),some m,some i=>match a_ P 10000 kt,tT P et with
      | some ks,some z=>some (.look ks (lQ P kt) z m i ok)
      | _,_=>none
    | _,_,_=>none
  | .mapUpdate t m i v | .insert t m i v=>match P.underlying t,cX m,cX i,cX v with
    | some (.map kt et),some m,some i,some v=>match a_ P 10000 kt with
      | some ks=>some (.Aj ks (lQ P kt) m i v)
      | none=>none
    | _,_,_,_=>none
  | .mapEntry t m i=>match P.underlying t,cX m,cX i with
    | some (.map kt et),some m,some i=>match a_ P 10000 kt,tT P et with
      | some ks,some z=>some (.qp ks (lQ P kt) z m i)
      | _,_=>none
    | _,_,_=>none
  | .entryStore t m s x=>match cX m,cX s,cX x with
    | some m,some s,some x=>some (.qq m s x)
    | _,_,_=>none
  | .range t m=>match P.underlying t,cX m with
    | some (.map _ _),some m=>some (.rD m)
    | _,_=>none
  | .next it s=>if s then none else (cX it).map .nh
  | .entry it=>(cX it).map .uY
  | .call c=>match c.callee,c.args.toList,c.argTypes.toList with
    | .builtin .len,[x],[t]=>match P.underlying t,cX x with
      | some (.slice _),some x=>some (.len x)
      | some (.map _ _),some x=>some (.FU x)
      | some .string,some x=>some (.lens x)
      | _,_=>none
    | .builtin .clear,[x],[t]=>match P.underlying t,cX x with
      | some (.slice e),some x=>match P.info? e,fm P e with
        | some i,some z=>if z.length=i.size∧0<i.size then some (.Hv i.size z x) else none
        | _,_=>none
      | _,_=>none
    | .builtin .copy,[x,y],[t,_]=>match P.underlying t,cX x,cX y with
      | some (.slice e),some x,some y=>match P.info? e with
        | some i=>some (.copy e i.size x y)
        | none=>none
      | _,_,_=>none
    | .builtin .delete,[m,i],[t,t']=>match P.underlying t,cX m,cX i with
      | some (.map kt et),some m,some i=>match a_ P 10000 kt with
        | some ks=>some (.DR ks (lQ P kt) m i)
        | none=>none
      | _,_,_=>none
    | .builtin .append,[x,y],[t,t']=>if t=t' then match P.underlying t,cX x,cX y with
        | some (.slice e),some x,some y=>match P.info? e,fm P e with
          | some i,some z=>if z.length=i.size∧0<i.size then some (.app e i.size i.bytes x y) else none
          | _,_=>none
        | _,_,_=>none
      else none
    | .value f,args,_=>match cX f,Br args with
      | some f,some args=>some (.call f args)
      | _,_=>none
    | .builtin .max,[x,y],_=>match cX x,cX y with
      | some x,some y=>some (.mx x y)
      | _,_=>none
    | .builtin .min,[x,y],_=>match cX x,cX y with
      | some x,some y=>some (.mn x y)
      | _,_=>none
    | _,_,_=>none
  | _=>none
end
section
def Sound (P:Program)(o:Oper)(E:Nat→Option SV)(H:Nat→Option Ob)(k:Nat)(e:j4):Prop:=
 OT P o E e.F (fun n=>k≤n∧n<k+e.nk) e.v e.F'∧∀ n ob,lk e.F n=some ob→H n=some ob
section
variable {P:Program} {o:Oper} {E:Nat→Option SV} {H:Nat→Option Ob} {k:Nat} {own:Bool} {e:j4}
theorem aT:∀ n ob,lk ([]:Hp) n=some ob→H n=some ob:=fun n ob h=>by simp [bA] at h
theorem sub_one {n:Nat}{ob:Ob}(h:H n=some ob):∀ m iY,lk [(n,ob)] m=some iY→H m=some iY:=fun m iY hm=>by
 rw [bC] at hm
 split at hm
 ·rename_i e
  simp at hm
  subst hm;subst e
  exact h
 ·cases hm
theorem Hw {x:Operand}{y:X}(ho:o.op= .move x∨o.op= .assign x)(hx:cX x=some y)(he:cQ E H k own (.mv y)=some e):Sound P o E H k e:=by
 simp only [cQ] at he
 split at he <;> first | (cases he;done) | skip
 rename_i s hs
 injection he with he
 subst he
 refine ⟨OT.pure fun p μ M a w hk hS=>⟨a.eval x,?_,hk.get (by rcases ho with h | h <;> simp [h,Op.operands]) hx hs⟩,aT⟩
 rcases ho with h | h <;> simp [execOp,h]
theorem FV {c x y:Operand}{c' x' y':X}(ho:o.op= .pick c x y)(hc:cX c=some c')(hx:cX x=some x')(hy:cX y=some y')(he:cQ E H k own (.pick c' x' y')=some e):Sound P o E H k e:=by
 simp only [cQ] at he
 split at he <;> first | (cases he;done) | skip
 ·rename_i hb
  split at he <;> first | (cases he;done) | skip
  rename_i s hs
  injection he with he
  subst he
  refine ⟨OT.pure fun p μ M a w hk hS=>⟨a.eval x,?_,hk.get (by simp [ho,Op.operands]) hx hs⟩,aT⟩
  have:=Rp.br.1 (hk.get (by simp [ho,Op.operands]) hc hb)
  simp [execOp,ho,this,asBool]
 ·rename_i hb
  split at he <;> first | (cases he;done) | skip
  rename_i s hs
  injection he with he
  subst he
  refine ⟨OT.pure fun p μ M a w hk hS=>⟨a.eval y,?_,hk.get (by simp [ho,Op.operands]) hy hs⟩,aT⟩
  have:=Rp.br.1 (hk.get (by simp [ho,Op.operands]) hc hb)
  simp [execOp,ho,this,asBool]
theorem Rp.BE {p:Nat→Prop}{μ:Nat→Nm}{M:Mem}{n off:Nat}(hp:p n):Rp p μ M (.ptr n off) (.pointer (some ⟨(μ n).blk,off,none⟩)):=fun aY h=>by
 simp [bY,h n hp]
theorem Rp.pO {p:Nat→Prop}{μ:Nat→Nm}{M:Mem}{n off:Nat}{v:Value}(h:Rp p μ M (.ptr n off) v):v= .pointer (some ⟨(μ n).blk,off,none⟩):=by
 simpa [bY] using h.rep
theorem Rp.iZ {p:Nat→Prop}{μ:Nat→Nm}{M:Mem}{n len:Nat}{v:Value}(h:Rp p μ M (.gs n len) v):((μ n).live=true∧v= .slice (some ⟨(μ n).blk,0,none⟩) len (μ n).cap)∨((μ n).live=false∧len=0∧∃ A,v= .slice A 0 0):=by
 simpa [bY] using h.rep
theorem DU {t:TypeId}{z:List SV}(ho:o.op= .alloc t)(hz:fm P t=some z)(he:cQ E H k own (.alloc t z)=some e):Sound P o E H k e:=by
 simp only [cQ] at he
 injection he with he
 subst he
 refine ⟨OT.make fun p μ M a w hk hM=> ?_,aT⟩
 obtain ⟨v,hv,_,h2⟩:=fG hz (p:=p) (μ:=μ) (M:=M)
 refine ⟨.pointer (some ⟨w.heap.size,0,none⟩),.cells v.cells t,0,?_,fun p' aY hp ja hpk hk'=>⟨⟨rfl,v.cells,fF w _,?_⟩,?_⟩⟩
 ·simp [execOp,ho,Instr.alloc,hv,newVar,newRow]
 ·obtain ⟨v',hv',h1',_⟩:=fG hz (p:=p') (μ:=aY) (M:=M)
  have:=hv w;rw [hv' w] at this
  injection this with this
  subst this
  exact h1'
 ·have:=Rp.BE (μ:=aY) (M:=M) (n:=k) (off:=0) hpk
  rwa [hk'] at this
theorem Hx {t:TypeId}{x:Operand}{y:X}(ho:o.op= .box t x)(hx:cX x=some y)(he:cQ E H k own (.box t y)=some e):Sound P o E H k e:=by
 simp only [cQ] at he
 split at he <;> first | (cases he;done) | skip
 rename_i s hs
 split at he <;> first | (cases he;done) | skip
 rename_i hone
 injection he with he
 subst he
 refine ⟨OT.make fun p μ M a w hk hM=> ?_,aT⟩
 have hv:=hk.get (by simp [ho,Op.operands]) hx hs
 refine ⟨.pointer (some ⟨w.heap.size,0,none⟩),.cells (a.eval x).cells t,0,?_,fun p' aY hp ja hpk hk'=>⟨⟨rfl,(a.eval x).cells,fF w _,?_⟩,?_⟩⟩
 ·simp [execOp,ho,Instr.box,newVar,newRow]
 ·exact (Rp.cells hone (hv.more hp ja (Mem.le_refl M))).1
 ·have:=Rp.BE (μ:=aY) (M:=M) (n:=k) (off:=0) hpk
  rwa [hk'] at this
theorem FW {t:TypeId}{x:Operand}{y:X}{sz:Option Nat}(ho:o.op= .load t x)(hx:cX x=some y)(ht:dg P t=some sz)(he:cQ E H k own (.load sz y)=some e)(aZ:e.ob):Sound P o E H k e:=by
 simp only [cQ] at he
 split at he <;> first | (cases he;done) | skip
 rename_i s hs
 split at he <;> first | (cases he;done) | skip
 rename_i cs off F hc
 split at he <;> first | (cases he;done) | skip
 rename_i v hv
 injection he with he
 subst he
 refine ⟨OT.pure fun p μ M a w hk hS=> ?_,qw hc⟩
 obtain ⟨b,q,e1,hr⟩:=ni hc (hk.get (by simp [ho,Op.operands]) hx hs) hS
 obtain ⟨u,hu,hr'⟩:=zn ht hv aZ hr
 refine ⟨u,?_,hr'⟩
 simp [execOp,ho,Instr.loadAt,e1,Instr.sureAddr,hu]
theorem FX {x:Operand}{y:X}(ho:o.op= .nilCheck x)(hx:cX x=some y)(he:cQ E H k own (.qH y)=some e):Sound P o E H k e:=by
 simp only [cQ] at he
 split at he <;> first | (cases he;done) | skip
 ·rename_i n off hs
  injection he with he
  subst he
  refine ⟨OT.pure fun p μ M a w hk hS=>⟨a.eval x,?_,hk.get (by simp [ho,Op.operands]) hx hs⟩,aT⟩
  have:=(hk.get (by simp [ho,Op.operands]) hx hs).pO
  simp [execOp,ho,this]
 ·rename_i cs i hs
  injection he with he
  subst he
  refine ⟨OT.pure fun p μ M a w hk hS=>⟨a.eval x,?_,hk.get (by simp [ho,Op.operands]) hx hs⟩,aT⟩
  obtain ⟨b,q,e1,_⟩:=(by simpa [bY] using (hk.get (by simp [ho,Op.operands]) hx hs).rep:∃ b q,a.eval x= .pointer (some ⟨b,q+i,none⟩)∧cq M b q cs)
  simp [execOp,ho,e1]
theorem Hy {t:TypeId}{x:Operand}{y:X}(ho:o.op= .unOp .not t x)(hx:cX x=some y)(he:cQ E H k own (.not y)=some e):Sound P o E H k e:=by
 simp only [cQ] at he
 split at he <;> first | (cases he;done) | skip
 rename_i b hs
 injection he with he
 subst he
 refine ⟨OT.pure fun p μ M a w hk hS=>⟨.bool !b,?_,Rp.br.2 rfl⟩,aT⟩
 have:=Rp.br.1 (hk.get (by simp [ho,Op.operands]) hx hs)
 simp [execOp,ho,this,Op.unary]
theorem Hz {t:TypeId}{x:Operand}{y:X}(ho:o.op= .unOp .neg t x)(hx:cX x=some y)(he:cQ E H k own (.neg y)=some e):Sound P o E H k e:=by
 simp only [cQ] at he
 split at he <;> first | (cases he;done) | skip
 rename_i kd n hs
 injection he with he
 subst he
 refine ⟨OT.pure fun p μ M a w hk hS=>⟨.int kd (kd.wrap (-n)),?_,Rp.aR.2 rfl⟩,aT⟩
 have:=Rp.aR.1 (hk.get (by simp [ho,Op.operands]) hx hs)
 simp [execOp,ho,this,Op.unary,Op.intArith]
theorem FY {s d:TypeId}{x:Operand}{y:X}{ks kd:IntKind}(ho:o.op= .convert s d x)(h1:P.underlying s=some (.int ks))(h2:P.underlying d=some (.int kd))(hx:cX x=some y)
  (he:cQ E H k own (.conv kd y)=some e):Sound P o E H k e:=by
 simp only [cQ] at he
 split at he <;> first | (cases he;done) | skip
 rename_i kk n hs
 injection he with he
 subst he
 refine ⟨OT.pure fun p μ M a w hk hS=>⟨.int kd (kd.wrap n),?_,Rp.aR.2 rfl⟩,aT⟩
 have:=Rp.aR.1 (hk.get (by simp [ho,Op.operands]) hx hs)
 simp [execOp,ho,this,convert,run_underlying h1,run_underlying h2,Conv.intToInt]
theorem HA {x:Operand}{y:X}{i:Nat}(ho:o.op= .extract x i)(hx:cX x=some y)(he:cQ E H k own (.ext i y)=some e):Sound P o E H k e:=by
 simp only [cQ] at he
 split at he <;> first | (cases he;done) | skip
 rename_i cs hs
 split at he <;> first | (cases he;done) | skip
 rename_i v hv
 injection he with he
 subst he
 refine ⟨OT.pure fun p μ M a w hk hS=> ?_,aT⟩
 obtain ⟨vs,e1,hr⟩:=Rp.dI.1 (hk.get (by simp [ho,Op.operands]) hx hs)
 obtain ⟨u,hu,hu'⟩:=hr.get hv
 refine ⟨u,?_,hu'⟩
 have:vs[i]? =some u:=by simpa using hu
 simp [execOp,ho,e1,Instr.extract,this]
theorem FZ {c:Call}{t:TypeId}{x:Operand}{y:X}(ho:o.op= .call c)(bI:c.callee= .builtin .len)(ha:c.args.toList=[x])(nj:c.argTypes.toList=[t])(ht:P.underlying t=some .string)
  (hx:cX x=some y) (he:cQ E H k own (.lens y)=some e):Sound P o E H k e:=by
 have ha':c.args= #[x]:=by cases hh:c.args;simp [hh] at ha;simp [ha]
 have hat':c.argTypes= #[t]:=by cases hh:c.argTypes;simp [hh] at nj;simp [nj]
 have hin:x∈o.op.operands:=by simp [ho,Op.operands,Call.operands,bI,ha']
 simp only [cQ] at he
 split at he <;> first | (cases he;done) | skip
 rename_i s hs
 injection he with he
 subst he
 refine ⟨OT.pure fun p μ M a w hk hS=>⟨.int .i64 s.length,?_,Rp.aR.2 rfl⟩,aT⟩
 obtain ⟨b,e1,rfl⟩:=(by simpa [bH] using Rp.bN.1 (hk.get hin hx hs):∃ b:ByteArray,a.eval x= .string b∧b.data.toList.map UInt8.toNat=s)
 simp [execOp,ho,resolve,bI,ha',hat',invoke,builtin,e1,Builtin.len_,run_underlying ht,goInt]
theorem BF {b:ByteArray}{i:Nat}(h:i<b.data.size):b[i]? =some (b.data[i]):=by
 have h':i<b.size:=h
 rw [getElem?_pos b i h']
 rfl
theorem F3 {t:TypeId}{x i:Operand}{y j:X}(ho:o.op= .index t x i)(ht:P.underlying t=some .string)(hx:cX x=some y)(hj:cX i=some j)
  (he:cQ E H k own (.FQ y j)=some e) (aZ:e.ob):Sound P o E H k e:=by
 simp only [cQ] at he
 split at he <;> first | (cases he;done) | skip
 rename_i s kk n hs hn
 injection he with he
 subst he
 refine ⟨OT.pure fun p μ M a w hk hS=>⟨.int .u8 ((s.getD n.toNat 0:Nat):Int),?_,Rp.aR.2 rfl⟩,aT⟩
 obtain ⟨b,e1,rfl⟩:=(by simpa [bH] using Rp.bN.1 (hk.get (by simp [ho,Op.operands]) hx hs):∃ b:ByteArray,a.eval x= .string b∧b.data.toList.map UInt8.toNat=s)
 have e2:=Rp.aR.1 (hk.get (by simp [ho,Op.operands]) hj hn)
 obtain ⟨h1,h2⟩:=aZ
 have h3:n.toNat<b.data.size:=by
  show n.toNat<b.size
  simp at h2;omega
 have h4:=BF h3
 have h5:b.data[n.toNat]? =some b.data[n.toNat]:=Array.getElem?_eq_getElem h3
 simp [execOp,ho,Instr.index,run_underlying ht,e1,e2,asIntOf,h1,h4,h5]
theorem qA {c:Call}{t:TypeId}{x:Operand}{y:X}{el:TypeId}(ho:o.op= .call c)(bI:c.callee= .builtin .len)(ha:c.args.toList=[x])(nj:c.argTypes.toList=[t])(ht:P.underlying t=some (.slice el))
  (hx:cX x=some y) (he:cQ E H k own (.len y)=some e):Sound P o E H k e:=by
 have ha':c.args= #[x]:=by cases hh:c.args;simp [hh] at ha;simp [ha]
 have hat':c.argTypes= #[t]:=by cases hh:c.argTypes;simp [hh] at nj;simp [nj]
 have hin:x∈o.op.operands:=by simp [ho,Op.operands,Call.operands,bI,ha']
 have run:∀ (a:Act) (w:World) (A:Option Addr) (n cp:Nat),a.eval x= .slice A n cp→(execOp a.eval o).run P w= .ok (.value (.int .i64 n)) w:=by
  intro a w A n cp h
  simp [execOp,ho,resolve,bI,ha',hat',invoke,builtin,h,Builtin.len_,run_underlying ht,goInt]
 simp only [cQ] at he
 split at he <;> first | (cases he;done) | skip
 ·rename_i n cs hs
  injection he with he
  subst he
  refine ⟨OT.pure fun p μ M a w hk hS=>⟨.int .i64 n,?_,Rp.aR.2 rfl⟩,aT⟩
  obtain ⟨A,cp,e1,_⟩:=(by simpa [bH] using Rp.bN.1 (hk.get hin hx hs):∃ A cp,a.eval x= .slice A n cp∧_)
  exact run a w A n cp e1
 ·rename_i hs
  injection he with he
  subst he
  refine ⟨OT.pure fun p μ M a w hk hS=>⟨.int .i64 0,?_,Rp.aR.2 rfl⟩,aT⟩
  have e1:a.eval x= .slice none 0 0:=by simpa [bH] using Rp.bN.1 (hk.get hin hx hs)
  exact run a w none 0 0 e1
 ·rename_i m n hs
  injection he with he
  subst he
  refine ⟨OT.pure fun p μ M a w hk hS=>⟨.int .i64 n,?_,Rp.aR.2 rfl⟩,aT⟩
  rcases (hk.get hin hx hs).iZ with ⟨_,e1⟩ | ⟨_,rfl,_,e1⟩
  ·exact run a w _ n _ e1
  ·exact run a w _ 0 _ e1
 ·rename_i m off n hs
  injection he with he
  subst he
  refine ⟨OT.pure fun p μ M a w hk hS=>⟨.int .i64 n,?_,Rp.aR.2 rfl⟩,aT⟩
  obtain ⟨A,c,e1,_⟩:=(by simpa [bY] using (hk.get hin hx hs).rep:∃ A c,a.eval x= .slice (some A) n c∧_)
  exact run a w _ n _ e1
theorem IN {c:Call}{x y:Operand}{x' y':X}(ho:o.op= .call c)(bI:c.callee= .builtin .max)(ha:c.args.toList=[x,y])
  (hx:cX x=some x') (hy:cX y=some y') (he:cQ E H k own (.mx x' y')=some e):Sound P o E H k e:=by
 have ha':c.args= #[x,y]:=by cases hh:c.args;simp [hh] at ha;simp [ha]
 simp only [cQ] at he
 split at he <;> first | (cases he;done) | skip
 rename_i kk m Fi n h1 h2
 injection he with he
 subst he
 refine ⟨OT.pure fun p μ M a w hk hS=>⟨_,?_,Rp.aR.2 rfl⟩,aT⟩
 have e1:=Rp.aR.1 (hk.get (by simp [ho,Op.operands,Call.operands,bI,ha']) hx h1)
 have e2:=Rp.aR.1 (hk.get (by simp [ho,Op.operands,Call.operands,bI,ha']) hy h2)
 simp [execOp,ho,resolve,bI,ha',invoke,builtin,e1,e2,Builtin.max_,Builtin.max2]
theorem IP {c:Call}{x y:Operand}{x' y':X}(ho:o.op= .call c)(bI:c.callee= .builtin .min)(ha:c.args.toList=[x,y])
  (hx:cX x=some x') (hy:cX y=some y') (he:cQ E H k own (.mn x' y')=some e):Sound P o E H k e:=by
 have ha':c.args= #[x,y]:=by cases hh:c.args;simp [hh] at ha;simp [ha]
 simp only [cQ] at he
 split at he <;> first | (cases he;done) | skip
 rename_i kk m Fi n h1 h2
 injection he with he
 subst he
 refine ⟨OT.pure fun p μ M a w hk hS=>⟨_,?_,Rp.aR.2 rfl⟩,aT⟩
 have e1:=Rp.aR.1 (hk.get (by simp [ho,Op.operands,Call.operands,bI,ha']) hx h1)
 have e2:=Rp.aR.1 (hk.get (by simp [ho,Op.operands,Call.operands,bI,ha']) hy h2)
 simp [execOp,ho,resolve,bI,ha',invoke,builtin,e1,e2,Builtin.min_,Builtin.min2]
theorem HB {f:Fn}{a c:Array Operand}{a' c':List X}(ho:o.op= .makeFunc f a c)(ha:Br a.toList=some a')(hc:Br c.toList=some c')(he:cQ E H k own (.xZ f a' c')=some e):Sound P o E H k e:=by
 simp only [cQ] at he
 split at he <;> first | (cases he;done) | skip
 rename_i s s' h1 h2
 injection he with he
 subst he
 refine ⟨OT.pure fun p μ M ac w hk hS=>⟨.func f (a.map ac.eval) (c.map ac.eval),by simp [execOp,ho,Instr.makeFunc],Rp.pJ.2 ⟨_,_,rfl,?_,?_⟩⟩,aT⟩
 ·simpa using hk.BB (os:=a.toList) (fun x hx=>by rw [ho];simp only [Op.operands,Array.mem_append];exact .inl (by simpa using hx)) ha h1
 ·simpa using hk.BB (os:=c.toList) (fun x hx=>by rw [ho];simp only [Op.operands,Array.mem_append];exact .inr (by simpa using hx)) hc h2
theorem HC {t:TypeId}(ho:o.op= .makeMap t none)(he:cQ E H k own .DQ=some e):Sound P o E H k e:=by
 simp only [cQ] at he
 injection he with he
 subst he
 refine ⟨OT.make fun p μ M a w hk hM=>⟨.map (some w.heap.size),.map #[] 0,0,?_,fun p' aY hp ja hpk hk'=>⟨⟨rfl,#[],fF w _,by simp [fO]⟩,fun ν fV=> ?_⟩⟩,aT⟩
 ·simp [execOp,ho,Instr.makeMap]
 ·exact .inl (by simp [fV k hpk,hk'])
theorem zp {n:Nat}{s v:SV}(h:BC n s=some v){p:Nat→Prop}{μ:Nat→Nm}{M:Mem}{u:Value}(hu:Rp p μ M s u):
  ∃ b q,u= .pointer (some ⟨b,q,none⟩)∧Rp p μ M v (.pointer (some ⟨b,q+n,none⟩)):=by
 cases s <;> simp [BC] at h
 case ptr m off=>
  subst h
  refine ⟨(μ m).blk,off,hu.pO,fun ν fV=> ?_⟩
  have h1:=hu ν fV
  have h2:=hu.rep
  simp only [bY] at h1 h2 ⊢
  rw [h2] at h1
  injection h1 with h1
  injection h1 with h1
  injection h1 with h1
  rw [h1]
 case vp cs i=>
  subst h
  obtain ⟨b,q,e1,hr⟩:=(by simpa [bY] using hu.rep:∃ b q,u= .pointer (some ⟨b,q+i,none⟩)∧cq M b q cs)
  refine ⟨b,q+i,e1,fun ν fV=> ?_⟩
  simp only [bY]
  exact ⟨b,q,by rw [Nat.add_assoc],hr⟩
theorem HD {s:TypeId}{x:Operand}{y:X}{f:Nat}{fs:Array Field}{fl:Field}{i:TypeInfo}(ho:o.op= .fieldAddr s x f)(hs:P.underlying s=some (.struct fs))(hf:fs[f]? =some fl)
  (hi:P.info? fl.type=some i) (IQ: ¬ i.size=0) (hx:cX x=some y) (he:cQ E H k own (.aK fl.offset y)=some e):Sound P o E H k e:=by
 simp only [cQ] at he
 split at he <;> first | (cases he;done) | skip
 rename_i sv hsv
 split at he <;> first | (cases he;done) | skip
 rename_i v hv
 injection he with he
 subst he
 refine ⟨OT.pure fun p μ M a w hk hS=> ?_,aT⟩
 obtain ⟨b,q,e1,hr⟩:=zp hv (hk.get (by simp [ho,Op.operands]) hx hsv)
 refine ⟨_,?_,hr⟩
 simp [execOp,ho,Instr.fieldAt,run_underlying hs,hf,e1,Instr.sureAddr,fieldPlace,c_ hi,IQ,de]
theorem F4 {t el:TypeId}{n:Nat}{x i:Operand}{y j:X}{ti:TypeInfo}(ho:o.op= .indexAddr t x i)(ht:P.underlying t=some (.array n el))(hi:P.info? el=some ti)(hx:cX x=some y)(hj:cX i=some j)
  (he:cQ E H k own (.Bx n ti.size y j)=some e) (aZ:e.ob):Sound P o E H k e:=by
 simp only [cQ] at he
 split at he <;> first | (cases he;done) | skip
 rename_i s kk m hs hm
 split at he <;> first | (cases he;done) | skip
 rename_i v hv
 injection he with he
 subst he
 refine ⟨OT.pure fun p μ M a w hk hS=> ?_,aT⟩
 obtain ⟨b,q,e1,hr⟩:=zp hv (hk.get (by simp [ho,Op.operands]) hx hs)
 have e2:=Rp.aR.1 (hk.get (by simp [ho,Op.operands]) hj hm)
 refine ⟨_,?_,hr⟩
 simp [execOp,ho,Instr.indexAt,run_underlying ht,e1,e2,Instr.sureAddr,asIntOf,c_ hi,aZ.1,aZ.2,de]
theorem F5 {t el:TypeId}{x i:Operand}{y j:X}{ti:TypeInfo}(ho:o.op= .indexAddr t x i)(ht:P.underlying t=some (.slice el))(hi:P.info? el=some ti)(hx:cX x=some y)(hj:cX i=some j)
  (he:cQ E H k own (.bJ ti.size y j)=some e) (aZ:e.ob):Sound P o E H k e:=by
 simp only [cQ] at he
 split at he <;> first | (cases he;done) | skip
 ·rename_i n cs kk m hs hm
  injection he with he
  subst he
  refine ⟨OT.pure fun p μ M a w hk hS=> ?_,aT⟩
  have hob1:0≤m:=aZ.1
  have hob2:m<(n:Int):=aZ.2
  obtain ⟨A,cp,e1,_,_,h4⟩:=(by simpa [bH] using Rp.bN.1 (hk.get (by simp [ho,Op.operands]) hx hs):∃ A cp,a.eval x= .slice A n cp∧n≤cp∧(n=0→cs=[])∧(0<n→∃ b q,A=some ⟨b,q,none⟩∧cq M b q cs))
  obtain ⟨b,q,rfl,hr⟩:=h4 (by omega)
  have e2:=Rp.aR.1 (hk.get (by simp [ho,Op.operands]) hj hm)
  refine ⟨.pointer (some ⟨b,q+m.toNat*ti.size,none⟩),?_,fun ν fV=> ?_⟩
  ·simp [execOp,ho,Instr.indexAt,run_underlying ht,e1,e2,asIntOf,c_ hi,hob1,hob2,de]
  ·simp only [bY]
   exact ⟨b,q,rfl,hr⟩
 ·rename_i n l kk m hs hm
  injection he with he
  subst he
  refine ⟨OT.pure fun p μ M a w hk hS=> ?_,aT⟩
  have hob1:0≤m:=aZ.1
  have hob2:m<(l:Int):=aZ.2
  have hs':=hk.get (by simp [ho,Op.operands]) hx hs
  obtain ⟨hl,e1⟩:(μ n).live=true∧a.eval x= .slice (some ⟨(μ n).blk,0,none⟩) l (μ n).cap:=by
   rcases hs'.iZ with h | ⟨_,h,_⟩
   ·exact h
   ·omega
  have e2:=Rp.aR.1 (hk.get (by simp [ho,Op.operands]) hj hm)
  refine ⟨.pointer (some ⟨(μ n).blk,0+m.toNat*ti.size,none⟩),?_,fun ν fV=> ?_⟩
  ·simp [execOp,ho,Instr.indexAt,run_underlying ht,e1,e2,asIntOf,c_ hi,hob1,hob2,de]
  ·have:=hs' ν fV
   rw [e1] at this
   simp only [bY] at this ⊢
   rcases this with ⟨_,this⟩ | ⟨_,h,_⟩
   ·injection this with t1
    injection t1 with t1
    injection t1 with t1
    rw [t1]
    simp
   ·omega
 ·rename_i n off l kk m hs hm
  injection he with he
  subst he
  refine ⟨OT.pure fun p μ M a w hk hS=> ?_,aT⟩
  have hob1:0≤m:=aZ.1
  have hob2:m<(l:Int):=aZ.2
  have hs':=hk.get (by simp [ho,Op.operands]) hx hs
  obtain ⟨A,c,e1,_,hA⟩:=(by simpa [bY] using hs'.rep:∃ A c,a.eval x= .slice (some A) l c∧l≤c∧(¬ l=0→A=⟨(μ n).blk,off,none⟩))
  have hA:=hA (by omega)
  subst hA
  have e2:=Rp.aR.1 (hk.get (by simp [ho,Op.operands]) hj hm)
  refine ⟨.pointer (some ⟨(μ n).blk,off+m.toNat*ti.size,none⟩),?_,fun ν fV=> ?_⟩
  ·simp [execOp,ho,Instr.indexAt,run_underlying ht,e1,e2,asIntOf,c_ hi,hob1,hob2,de]
  ·have:=hs' ν fV
   rw [e1] at this
   simp only [bY] at this ⊢
   obtain ⟨A,c',h1,_,h2⟩:=this
   injection h1 with h1
   injection h1 with h1
   have h2:=h2 (by omega)
   rw [← h1] at h2
   injection h2 with h2
   rw [h2]
theorem DW {op:BinOp}{t:TypeId}{w:World}{ka kb:IntKind}{a b:Int}{v:SV}{ob:Prop}(hk:tI op ka kb=true)(h:tH op ka a b=some (v,ob))(aZ:ob):
  ∃ u,(binOp op t (.int ka a) (.int kb b)).run P w= .ok u w∧∀ (p:Nat→Prop) (μ:Nat→Nm) (M:Mem),Rp p μ M v u:=by
 cases op <;> simp [tI] at hk <;> simp only [tH,Option.some.injEq,Prod.mk.injEq] at h <;> obtain ⟨rfl,rfl⟩:=h <;> (try subst hk)
 case add=>exact ⟨_,by rw [binOp_add];rfl,fun _ _ _=>Rp.aR.2 rfl⟩
 case sub=>exact ⟨_,by rw [binOp_sub];rfl,fun _ _ _=>Rp.aR.2 rfl⟩
 case mul=>exact ⟨_,by rw [binOp_mul];rfl,fun _ _ _=>Rp.aR.2 rfl⟩
 case quo=>exact ⟨_,by rw [binOp_quo];simp [Op.intDiv,aZ],fun _ _ _=>Rp.aR.2 rfl⟩
 case rem=>exact ⟨_,by rw [binOp_rem];simp [Op.intDiv,aZ],fun _ _ _=>Rp.aR.2 rfl⟩
 case and=>exact ⟨_,by rw [binOp_and];rfl,fun _ _ _=>Rp.aR.2 rfl⟩
 case or=>exact ⟨_,by rw [binOp_or];rfl,fun _ _ _=>Rp.aR.2 rfl⟩
 case xor=>exact ⟨_,by rw [binOp_xor];rfl,fun _ _ _=>Rp.aR.2 rfl⟩
 case andNot=>exact ⟨_,by rw [binOp_andNot];rfl,fun _ _ _=>Rp.aR.2 rfl⟩
 case shl=>exact ⟨_,by rw [binOp_shl,shift_shl ka kb a b aZ.1 aZ.2];rfl,fun _ _ _=>Rp.aR.2 rfl⟩
 case shr=>exact ⟨_,by rw [binOp_shr,shift_shr ka kb a b aZ.1 aZ.2];rfl,fun _ _ _=>Rp.aR.2 rfl⟩
 case eql=>exact ⟨_,by rw [binOp_eql];rfl,fun _ _ _=>Rp.br.2 rfl⟩
 case neq=>exact ⟨_,by rw [binOp_neq];rfl,fun _ _ _=>Rp.br.2 rfl⟩
 case lss=>exact ⟨_,by rw [binOp_lss];rfl,fun _ _ _=>Rp.br.2 rfl⟩
 case leq=>exact ⟨_,by rw [binOp_leq];rfl,fun _ _ _=>Rp.br.2 rfl⟩
 case gtr=>exact ⟨_,by rw [binOp_gtr];rfl,fun _ _ _=>Rp.br.2 rfl⟩
 case geq=>exact ⟨_,by rw [binOp_geq];rfl,fun _ _ _=>Rp.br.2 rfl⟩
theorem Fj {op:BinOp}{t t':TypeId}{x y:Operand}{x' y':X}(ho:o.op= .binOp op t x y t')(hx:cX x=some x')(hy:cX y=some y')(he:cQ E H k own (.bin op x' y')=some e)(aZ:e.ob):Sound P o E H k e:=by
 simp only [cQ] at he
 split at he <;> first | (cases he;done) | skip
 rename_i ka a kb b h1 h2
 split at he <;> first | (cases he;done) | skip
 rename_i hkk
 split at he <;> first | (cases he;done) | skip
 rename_i v ob hv
 injection he with he
 subst he
 refine ⟨OT.pure fun p μ M ac w hk hS=> ?_,aT⟩
 have e1:=Rp.aR.1 (hk.get (by simp [ho,Op.operands]) hx h1)
 have e2:=Rp.aR.1 (hk.get (by simp [ho,Op.operands]) hy h2)
 obtain ⟨u,hu,hr⟩:=DW (P:=P) (t:=t) (w:=w) hkk hv aZ
 refine ⟨u,?_,hr p μ M⟩
 simp [execOp,ho,e1,e2,eqGuard_at_int,hu]
end
end
section
section
variable {P:Program} {o:Oper} {E:Nat→Option SV} {H:Nat→Option Ob} {k:Nat} {own:Bool} {e:j4}
theorem we {w:World}{t:TypeId}{sz:Option Nat}(ht:dg P t=some sz){cs:List SV}{vs:Array Value}{off:Nat}{s:SV}(h:x_ cs off sz=some s)(hle:xT cs off sz){p:Nat→Prop}{μ:Nat→Nm}{M:Mem}
  (hr:aM p μ M cs vs.toList):∃ v,(part t vs off).run P w= .ok v w∧Rp p μ M s v:=by
 cases sz with
 | none=>
  obtain ⟨u,hu,hr'⟩:=hr.get h
  have hu':vs[off]? =some u:=by simpa using hu
  exact ⟨u,by simp [part,pL ht,hu'],hr'⟩
 | some m=>
  simp only [xT] at hle
  simp [x_] at h
  subst h
  refine ⟨.agg (vs.extract off (off+m)),by simp [part,(jh ht).1,(jh ht).2],Rp.dh.2 ⟨_,rfl,?_⟩⟩
  have:=(hr.drop off).take m
  simpa using this
theorem DX {t:TypeId}{x:Operand}{y:X}{f:Nat}{fs:Array Field}{fl:Field}{sz:Option Nat}(ho:o.op= .field t x f)(hs:P.underlying t=some (.struct fs))(hf:fs[f]? =some fl)
  (hz:dg P fl.type=some sz) (hx:cX x=some y) (he:cQ E H k own (.field fl.offset sz y)=some e) (aZ:e.ob):Sound P o E H k e:=by
 simp only [cQ] at he
 split at he <;> first | (cases he;done) | skip
 rename_i cs hcs
 split at he <;> first | (cases he;done) | skip
 rename_i v hv
 injection he with he
 subst he
 refine ⟨OT.pure fun p μ M a w hk hS=> ?_,aT⟩
 obtain ⟨vs,e1,hr⟩:=Rp.dh.1 (hk.get (by simp [ho,Op.operands]) hx hcs)
 obtain ⟨u,hu,hr'⟩:=we (P:=P) (w:=w) hz hv aZ hr
 refine ⟨u,?_,hr'⟩
 simp [execOp,ho,Instr.field,run_underlying hs,hf,e1,asAgg,hu]
theorem DY {t el:TypeId}{n:Nat}{x i:Operand}{y j:X}{ti:TypeInfo}{sz:Option Nat}(ho:o.op= .index t x i)(ht:P.underlying t=some (.array n el))(hi:P.info? el=some ti)(hz:dg P el=some sz)
  (Fk:sz=(if sz.isSome then some ti.size else none)) (hx:cX x=some y) (hj:cX i=some j) (he:cQ E H k own (.index n ti.size sz.isSome y j)=some e) (aZ:e.ob):Sound P o E H k e:=by
 simp only [cQ] at he
 split at he <;> first | (cases he;done) | skip
 rename_i cs kk m hs hm
 rw [← Fk] at he
 split at he <;> first | (cases he;done) | skip
 rename_i v hv
 injection he with he
 subst he
 refine ⟨OT.pure fun p μ M a w hk hS=> ?_,aT⟩
 obtain ⟨vs,e1,hr⟩:=Rp.dh.1 (hk.get (by simp [ho,Op.operands]) hx hs)
 have e2:=Rp.aR.1 (hk.get (by simp [ho,Op.operands]) hj hm)
 obtain ⟨u,hu,hr'⟩:=we (P:=P) (w:=w) hz hv aZ.2 hr
 refine ⟨u,?_,hr'⟩
 have h1:=aZ.1.1
 have h2:=aZ.1.2
 simp [execOp,ho,Instr.index,run_underlying ht,e1,e2,asIntOf,h1,h2,c_ hi,hu]
theorem DZ {kd:Bool}{s t:SV}{b:Bool}(h:DI kd s t=some b){p:Nat→Prop}{μ:Nat→Nm}{M:Mem}{u v:Value}(hu:Rp p μ M s u)(hv:Rp p μ M t v):DH kd u v=some b:=by
 unfold DI at h
 split at h
 ·rw [Rp.aR.1 hu,Rp.aR.1 hv];exact h
 ·rw [Rp.br.1 hu,Rp.br.1 hv];exact h
 ·cases h
theorem j9:∀ {ks:List Bool} {ss ts:List SV} {b:Bool},iu ks ss ts=some b→∀ {p:Nat→Prop} {μ:Nat→Nm} {M:Mem} {us vs:List Value},aM p μ M ss us→aM p μ M ts vs→dR ks us vs=some b
 | [],[],[],b,h,_,_,_,us,vs,hu,hv=>by rw [aM.aN.1 hu,aM.aN.1 hv];exact h
 | [],[],_::_,_,h,_,_,_,_,_,_,_=>by simp [iu] at h
 | [],_::_,_,_,h,_,_,_,_,_,_,_=>by simp [iu] at h
 | _::_,[],_,_,h,_,_,_,_,_,_,_=>by simp [iu] at h
 | _::_,_::_,[],_,h,_,_,_,_,_,_,_=>by simp [iu] at h
 | kd::ks,s::ss,t::ts,b,h,p,μ,M,us,vs,hu,hv=>by
  simp only [iu] at h
  split at h
  ·rename_i a b' h1 h2
   obtain ⟨u,us',rfl,hu1,hu2⟩:=aM.aC.1 hu
   obtain ⟨v,vs',rfl,hv1,hv2⟩:=aM.aC.1 hv
   simp only [dR,DZ h1 hu1 hv1,j9 h2 hu2 hv2]
   exact h
  ·cases h
theorem kM {op:BinOp}(h:isEq op=true):op= .eql∨op= .neq:=by
 cases op <;> simp [isEq] at h <;> simp
theorem Fl {op:BinOp}{t t':TypeId}{x y:Operand}{x' y':X}{ks:List Bool}(ho:o.op= .binOp op t x y t')(hop:isEq op=true)(ht:(∃ fs,P.underlying t=some (.struct fs))∨∃ n el,P.underlying t=some (.array n el))(hks:a_ P 10000 t=some ks)
  (hg:P.eqGuardType P.depth t=false) (hx:cX x=some x') (hy:cX y=some y') (he:cQ E H k own (.eqv (dG op) ks x' y')=some e):Sound P o E H k e:=by
 simp only [cQ] at he
 split at he <;> first | (cases he;done) | skip
 rename_i s s' h1 h2
 split at he <;> first | (cases he;done) | skip
 rename_i b hb
 injection he with he
 subst he
 refine ⟨OT.pure fun p μ M a w hk hS=>⟨.bool (bif dG op then !b else b),?_,Rp.br.2 rfl⟩,aT⟩
 obtain ⟨xs,e1,r1⟩:=Rp.dh.1 (hk.get (by simp [ho,Op.operands]) hx h1)
 obtain ⟨ys,e2,r2⟩:=Rp.dh.1 (hk.get (by simp [ho,Op.operands]) hy h2)
 have hc:=j9 hb r1 r2
 have heq:=qx (P:=P) (w:=w) 10000 t ks _ _ b hks hc
 have hty:∃ n,dg P t=some (some n):=by
  rcases jb hks with ⟨t1,_⟩ | t1
  ·exfalso
   obtain ⟨i,hi,_⟩:=kK hks
   rcases ht with ⟨fs,ht⟩ | ⟨n,el,ht⟩ <;> simp [dg,ht,hi] at t1
  ·exact ⟨_,t1⟩
 obtain ⟨n,hty⟩:=hty
 simp only [valOf,hty] at heq
 have hgu:(eqGuard op t x y (.agg xs) (.agg ys)).run P w= .ok () w:=run_eqGuard_agg w op t x y xs ys hg
 rcases kM hop with rfl | rfl <;> simp [execOp,ho,e1,e2,hgu,binOp,Op.equal,Op.maxDepth,heq,dG]
theorem HE {op:BinOp}{t t':TypeId}{x y:Operand}{x' y':X}(ho:o.op= .binOp op t x y t')(hop:isEq op=true)(ht:P.underlying t=some .bool)
  (hx:cX x=some x') (hy:cX y=some y') (he:cQ E H k own (.nE (dG op) x' y')=some e):Sound P o E H k e:=by
 simp only [cQ] at he
 split at he <;> first | (cases he;done) | skip
 rename_i s s' h1 h2
 injection he with he
 subst he
 refine ⟨OT.pure fun p μ M a w hk hS=>⟨.bool (bif dG op then !(s == s') else s == s'),?_,Rp.br.2 rfl⟩,aT⟩
 have e1:=Rp.br.1 (hk.get (by simp [ho,Op.operands]) hx h1)
 have e2:=Rp.br.1 (hk.get (by simp [ho,Op.operands]) hy h2)
 have heq:=run_equalIn_bool (P:=P) w 9999 t s s' ht
 rcases kM hop with rfl | rfl <;> simp [execOp,ho,e1,e2,eqGuard_at_bool,binOp,Op.equal,Op.maxDepth,heq,dG]
theorem D0 {op:BinOp}{t t':TypeId}{x y:Operand}{x':X}{kd:Nat}(ho:o.op= .binOp op t x y t')(hop:isEq op=true)(hy:v_ P t y=some kd)
  (hx:cX x=some x') (he:cQ E H k own (.ng (dG op) kd x')=some e) (aZ:e.ob):Sound P o E H k e:=by
 have finF:∀ (F:Hp) (hF:∀ n ob,lk F n=some ob→H n=some ob) (b:Bool) (pp:Prop),(∀ (p:Nat→Prop) (μ:Nat→Nm) (M:Mem) (a:Act) (w:World),fW E o.op.operands p μ M a→bD p μ M (lk F) w→(∀ d,(Op.equalIn (d+1) t (a.eval x) (a.eval y)).run P w= .ok b w)∧
    (∀ kd n,a.eval x≠ .int kd n)∧(∀ q,a.eval x≠ .string q)∧(∀ q n,a.eval x≠ .float q n)∧(∀ q n m,a.eval x≠ .complex q n m)∧eqGuard op t x y (a.eval x) (a.eval y)=Pure.pure ())→
   Sound P o E H k ⟨.d (.bool (bif dG op then !b else b)),F,F,0,pp⟩:=by
  intro F hF b pp h
  refine ⟨OT.pure fun p μ M a w hk hS=>⟨.bool (bif dG op then !b else b),?_,Rp.br.2 rfl⟩,hF⟩
  obtain ⟨h0,n1,n2,n3,n4,n5⟩:=h p μ M a w hk hS
  have h1:=h0 9999
  clear h0
  have hb:(binOp op t (a.eval x) (a.eval y)).run P w= .ok (.bool (bif dG op then !b else b)) w:=by
   generalize a.eval x=u at*
   generalize a.eval y=v at*
   rcases kM hop with rfl | rfl <;> cases u <;> first
    | exact absurd rfl (n1 _ _)
    | exact absurd rfl (n2 _)
    | exact absurd rfl (n3 _ _)
    | exact absurd rfl (n4 _ _ _)
    | (cases v <;> simp [binOp,Op.equal,Op.maxDepth,h1,dG])
  simp only [execOp,ho,Sem.run_bind,n5,Sem.run_pure,Result.andThen_ok,hb]
 have fin:=finF [] aT
 unfold v_ at hy
 simp only [cQ] at he
 split at hy <;> first | (cases hy;done) | skip
 all_goals rename_i hty
 all_goals injection hy with hy
 all_goals subst hy
 all_goals split at he <;> first | (cases he;done) | skip
 all_goals first | contradiction | skip
 all_goals first | (rename_i hs;injection he with he;subst he) | skip
 ·have:=fin true True fun p μ M a w hk hS=>by
   have e1:a.eval x= .pointer none:=by simpa [bH] using Rp.bN.1 (hk.get (by simp [ho,Op.operands]) hx hs)
   refine ⟨fun d=>by rw [e1];simp [Act.eval,Op.equalIn,run_underlying hty],?_⟩
   rw [e1]
   simp [eqGuard_at_pointer]
  cases hn:dG op <;> simpa [hn] using this
 ·rename_i n off _
  have:=fin false True fun p μ M a w hk hS=>by
   have e1:a.eval x= .pointer (some ⟨(μ n).blk,off,none⟩):=(hk.get (by simp [ho,Op.operands]) hx hs).pO
   refine ⟨fun d=>by rw [e1];simp [Act.eval,Op.equalIn,run_underlying hty],?_⟩
   rw [e1]
   simp [eqGuard_at_pointer]
  cases hn:dG op <;> simpa [hn] using this
 ·have:=fin false True fun p μ M a w hk hS=>by
   obtain ⟨b,q,e1⟩:∃ b q,a.eval x= .pointer (some ⟨b,q,none⟩):=by
    have:=(hk.get (by simp [ho,Op.operands]) hx hs).rep
    simp only [bY] at this
    obtain ⟨b,q,e1,_⟩:=this
    exact ⟨b,_,e1⟩
   refine ⟨fun d=>by rw [e1];simp [Act.eval,Op.equalIn,run_underlying hty],?_⟩
   rw [e1]
   simp [eqGuard_at_pointer]
  cases hn:dG op <;> simpa [hn] using this
 ·have:=fin true True fun p μ M a w hk hS=>by
   have e1:a.eval x= .map none:=by simpa [bH] using Rp.bN.1 (hk.get (by simp [ho,Op.operands]) hx hs)
   refine ⟨fun d=>by rw [e1];simp [Act.eval,Op.equalIn,run_underlying hty],?_⟩
   rw [e1]
   simp [eqGuard_at_map]
  cases hn:dG op <;> simpa [hn] using this
 ·rename_i n _ hs
  split at he <;> first | (cases he;done) | skip
  ·rename_i es c hH
   injection he with he
   subst he
   have:=finF [(n,.map es c)] (sub_one hH) false True fun p μ M a w hk hS=>by
    have hl:(μ n).live=true:=hS.one.2.1.1
    have e1:a.eval x= .map (some (μ n).blk):=by simpa [bY,hl] using (hk.get (by simp [ho,Op.operands]) hx hs).rep
    refine ⟨fun d=>by rw [e1];simp [Act.eval,Op.equalIn,run_underlying hty],?_⟩
    rw [e1]
    simp [eqGuard_at_map]
   cases hn:dG op <;> simpa [hn] using this
  ·rename_i hH
   injection he with he
   subst he
   have:=finF [(n,.fz)] (sub_one hH) true True fun p μ M a w hk hS=>by
    have hl:(μ n).live=false:=hS.one.2.1
    have e1:a.eval x= .map none:=by simpa [bY,hl] using (hk.get (by simp [ho,Op.operands]) hx hs).rep
    refine ⟨fun d=>by rw [e1];simp [Act.eval,Op.equalIn,run_underlying hty],?_⟩
    rw [e1]
    simp [eqGuard_at_map]
   cases hn:dG op <;> simpa [hn] using this
 ·have:=fin true True fun p μ M a w hk hS=>by
   have e1:a.eval x= .nilFunc:=by simpa [bH] using Rp.bN.1 (hk.get (by simp [ho,Op.operands]) hx hs)
   refine ⟨fun d=>by rw [e1];simp [Act.eval,Op.equalIn,run_underlying hty],?_⟩
   rw [e1]
   simp [eqGuard_at_nilFunc]
  cases hn:dG op <;> simpa [hn] using this
 ·have:=fin false True fun p μ M a w hk hS=>by
   obtain ⟨as,cs,e1,_⟩:=Rp.pJ.1 (hk.get (by simp [ho,Op.operands]) hx hs)
   refine ⟨fun d=>by rw [e1];simp [Act.eval,Op.equalIn,run_underlying hty],?_⟩
   rw [e1]
   simp [eqGuard_at_func]
  cases hn:dG op <;> simpa [hn] using this
 ·have:=fin true True fun p μ M a w hk hS=>by
   have e1:a.eval x= .slice none 0 0:=by simpa [bH] using Rp.bN.1 (hk.get (by simp [ho,Op.operands]) hx hs)
   refine ⟨fun d=>by rw [e1];simp [Act.eval,Op.equalIn,run_underlying hty],?_⟩
   rw [e1]
   simp [eqGuard_at_slice]
  cases hn:dG op <;> simpa [hn] using this
 ·rename_i n len _
  have:=fin false (len≠0) fun p μ M a w hk hS=>by
   obtain ⟨_,e1⟩ | ⟨_,h,_⟩:=(hk.get (by simp [ho,Op.operands]) hx hs).iZ
   rotate_left
   ·exact absurd h aZ
   refine ⟨fun d=>by rw [e1];simp [Act.eval,Op.equalIn,run_underlying hty],?_⟩
   rw [e1]
   simp [eqGuard_at_slice]
  cases hn:dG op <;> simpa [hn] using this
end
end
section
section
variable {P:Program} {o:Oper} {E:Nat→Option SV} {H:Nat→Option Ob} {k:Nat} {own:Bool} {e:j4}
theorem tU (vs us:List Value)(o n:Nat)(h:o+us.length≤n)(hn:n≤vs.length):(j7 vs o us).take n=j7 (vs.take n) o us:=by
 have h0:o≤vs.length:=by omega
 unfold j7
 apply List.ext_getElem?
 intro i
 simp only [List.getElem?_take,List.getElem?_append,List.length_append,List.length_take,List.getElem?_drop,Nat.min_eq_left h0,Nat.min_eq_left (show o≤min n vs.length by omega)]
 by_cases h1:i<n
 ·simp only [h1,if_true]
  by_cases h2:i<o
  ·simp [h2,show i<o+us.length by omega]
  ·by_cases h3:i<o+us.length
   ·simp [h2,h3]
   ·simp [h3,show o+us.length+(i - (o+us.length))<n by omega]
 ·simp only [h1,if_false]
  simp [show ¬ i<o+us.length by omega,show ¬ o+us.length+(i - (o+us.length))<n by omega]
theorem oC {w:World}{t ty:TypeId}{i:TypeInfo}{b off:Nat}{vs:Array Value}{v:Value}(hi:P.info? t=some i)(hb:w.heap[b]? =some (.cells vs ty (0,0)))(hs:v.cells.size=i.size)
  (h1:∀ u∈v.cells.toList,u.oneCell'=true) (hl:off+i.size≤vs.size):
  ∃ w',(storeVar t ⟨b,off,none⟩ v).run P w= .ok () w'∧w'.heap[b]? =some (.cells (j7 vs.toList off v.cells.toList).toArray ty (0,0))∧(∀ c,c≠b→w'.heap[c]? =w.heap[c]?)∧
   w'.heap.size=w.heap.size∧w'.os=w.os∧Tape w w'∧w'.output=w.output:=by
 obtain ⟨w',hr,h2,h3⟩:=fH (P:=P) v.cells.toList vs w off 0 hb (by simp [hs];omega) h1
 refine ⟨w',?_,by simpa using h2,h3⟩
 simp [storeVar,c_ hi,hs,hr]
theorem D1 {t:TypeId}{x v:Operand}{x' v':X}{i:TypeInfo}(ho:o.op= .store t x v)(hi:P.info? t=some i)(hx:cX x=some x')(hv:cX v=some v')
  (he:cQ E H k own (.store i.size x' v')=some e) (aZ:e.ob):Sound P o E H k e:=by
 simp only [cQ] at he
 split at he <;> first | (cases he;done) | skip
 rename_i n off s h1 h2
 split at he <;> first | (cases he;done) | skip
 rename_i hone
 split at he <;> first | (cases he;done) | skip
 ·rename_i ty cs hH
  injection he with he
  subst he
  obtain ⟨hob1,hob2⟩:=aZ
  refine ⟨OT.write fun p μ M a w hk hp aZ=> ?_,sub_one hH⟩
  obtain ⟨h0,vs,hb,hr⟩:=aZ
  have e1:=(hk.get (by simp [ho,Op.operands]) hx h1).pO
  obtain ⟨c1,c2⟩:=Rp.cells hone (hk.get (by simp [ho,Op.operands]) hv h2)
  have hvs:vs.size=cs.length:=by simpa using hr.length
  have hsz:(a.eval v).cells.size=i.size:=by have:=c1.length;simp at this;omega
  obtain ⟨w',hr',q1,q2,q3,q4,q5,q6⟩:=oC (P:=P) (v:=a.eval v) hi hb hsz c2 (off:=off) (by omega)
  refine ⟨undef,w',.inr ⟨?_,rfl⟩,Rp.any,⟨h0,_,q1,?_⟩,fun b hb=>q2 b (hb h0),q3,q4,q5,q6⟩
  ·simp [execOp,ho,Instr.storeAt,e1,Instr.sureAddr,hr']
  ·simpa using aM.bE hr c1 (by omega)
 ·rename_i el z l cs hH
  injection he with he
  subst he
  obtain ⟨hob1,hob2,hob3⟩:=aZ
  refine ⟨OT.write fun p μ M a w hk hp aZ=> ?_,sub_one hH⟩
  rcases aZ with ⟨_,_,rfl⟩ | aZ
  ·simp at hob2;omega
  obtain ⟨h0,vs,hb,DJ,hl2,Hg,hl4,hr⟩:=aZ
  have e1:=(hk.get (by simp [ho,Op.operands]) hx h1).pO
  obtain ⟨c1,c2⟩:=Rp.cells hone (hk.get (by simp [ho,Op.operands]) hv h2)
  have hle:l*z≤vs.size:=by rw [hl4];exact Nat.mul_le_mul_right z hl2
  have hsz:(a.eval v).cells.size=i.size:=by have:=c1.length;simp at this;omega
  obtain ⟨w',hr',q1,q2,q3,q4,q5,q6⟩:=oC (P:=P) (v:=a.eval v) hi hb hsz c2 (off:=off) (by omega)
  refine ⟨undef,w',.inr ⟨?_,rfl⟩,Rp.any,.inr ⟨h0,_,q1,?_,hl2,Hg,?_,?_⟩,fun b hb=>q2 b (hb h0),q3,q4,q5,q6⟩
  ·simp [execOp,ho,Instr.storeAt,e1,Instr.sureAddr,hr']
  ·rw [pM (by omega)]
   simp
   omega
  ·simp [j7]
   omega
  ·have j_:(a.eval v).cells.toList.length=i.size:=by simpa using hsz
   have:=aM.bE (o:=off) hr c1 (by omega)
   rw [← tU _ _ _ _ (by omega) (by simpa using hle)] at this
   simpa using this
theorem ya (us:List Value):∀ (j off:Nat) (vs:Array Value),off+j+us.length≤vs.size→((us.zipIdx j).foldl (fun cs (x:Value×Nat)=>cs.setIfInBounds (off+x.2) x.1) vs).toList=j7 vs.toList (off+j) us:=by
 induction us with
 | nil=>intro j off vs _;simp [j7]
 | cons u us ih=>
  intro j off vs h
  simp only [List.length_cons] at h
  simp only [List.zipIdx_cons,List.foldl_cons]
  rw [ih (j+1) off _ (by simp;omega),Array.toList_setIfInBounds,show off+(j+1)=off+j+1 by omega]
  exact pN vs.toList (off+j) u us (by simp;omega)
theorem oD (pl:Nat→Option (Nat×Nat)){p:Nat→Prop}{μ:Nat→Nm}{M:Mem}{a:Act}{xs:Array Operand}(hk:fW E xs p μ M a):∀ (parts:List (Nat×Operand)) (qs:List (Nat×Nat×X)) (ps:List (Nat×Nat×SV)) (cells cs:List SV) (ob:Prop) (vs:Array Value),
  jV pl parts=some qs→vU E qs=some ps→kL cells ps=some (cs,ob)→ob→(∀ x∈parts,x.2∈xs)→aM p μ M cells vs.toList→
  ∃ vs':Array Value,Instr.fill pl vs (parts.map fun (i,x)=>(i,a.eval x))=some vs'∧aM p μ M cs vs'.toList
 | [],qs,ps,cells,cs,ob,vs,h1,h2,h3,aZ,_,hr=>by
  simp [jV] at h1;subst h1
  simp [vU] at h2;subst h2
  simp [kL] at h3;obtain ⟨rfl,_⟩:=h3
  exact ⟨vs,rfl,hr⟩
 | (i,x)::parts,qs,ps,cells,cs,ob,vs,h1,h2,h3,aZ,hin,hr=>by
  simp only [jV] at h1
  split at h1 <;> first | (cases h1;done) | skip
  rename_i off n y qs' hpl hy hqs
  injection h1 with h1;subst h1
  simp only [vU] at h2
  split at h2 <;> first | (cases h2;done) | skip
  rename_i s ss hs hss
  injection h2 with h2;subst h2
  simp only [kL] at h3
  split at h3 <;> first | (cases h3;done) | skip
  rename_i hone
  split at h3 <;> first | (cases h3;done) | skip
  rename_i cs' iY hb
  injection h3 with h3
  injection h3 with h3 h3'
  subst h3;subst h3'
  obtain ⟨hob1,hob2,hob3⟩:=aZ
  obtain ⟨c1,c2⟩:=Rp.cells hone (hk.get (hin (i,x) (by simp)) hy hs)
  have hvl:=hr.length
  have j_:=c1.length
  simp only [Array.length_toList] at hvl j_
  have hsp:=aM.bE (o:=off) hr c1 (by omega)
  have hf:=ya (a.eval x).cells.toList 0 off vs (by simp;omega)
  simp only [Nat.add_zero] at hf
  rw [← hf] at hsp
  obtain ⟨vs',r1,r2⟩:=oD pl hk parts qs' ss _ _ iY _ hqs hss hb hob3 (fun y hy=>hin y (by simp [hy])) hsp
  refine ⟨vs',?_,r2⟩
  simp only [List.map_cons,Instr.fill,hpl]
  rw [if_neg (by simp;omega)]
  rw [← Array.foldl_toList,Array.toList_zipIdx]
  exact r1
theorem run_places {w:World}:∀ (fs:List Field),(fs.all fun f=>(P.info? f.type).isSome)=true→
  (fs.mapM (m:=Sem) fun f=>do pure (f.offset,← sizeOf f.type)).run P w= .ok (fs.map fun f=>(f.offset,P.cellsOf f.type)) w
 | [],_=>by simp
 | f::fs,h=>by
  simp only [List.all_cons,Bool.and_eq_true] at h
  obtain ⟨i,hi⟩:=Option.isSome_iff_exists.1 h.1
  have ih:=run_places (w:=w) fs h.2
  simp only [List.mapM_cons,Sem.run_bind,c_ hi,Result.andThen_ok,Sem.run_pure,ih,List.map_cons,Program.cellsOf,hi,Option.map_some,Option.getD_some]
theorem yb {pl IS:Nat→Option (Nat×Nat)}:∀ (parts:List (Nat×Value)) (vs:Array Value),(∀ i,pl i=IS i)→Instr.fill pl vs parts=Instr.fill IS vs parts
 | parts,vs,h=>by rw [show pl=IS from funext h]
theorem F6 {t:TypeId}{parts:Array (Nat×Operand)}{fs:Array Field}{z:List SV}{qs:List (Nat×Nat×X)}(ho:o.op= .build t parts)(ht:P.underlying t=some (.struct fs))(hz:fm P t=some z)
  (Iz:fs.all (fun f=>(P.info? f.type).isSome)=true) (hq:jV (oB P fs) parts.toList=some qs) (he:cQ E H k own (.fZ z qs)=some e) (aZ:e.ob):Sound P o E H k e:=by
 simp only [cQ] at he
 split at he <;> first | (cases he;done) | skip
 rename_i ps hps
 split at he <;> first | (cases he;done) | skip
 rename_i cs ob hb
 injection he with he
 subst he
 refine ⟨OT.pure fun p μ M a w hk hS=> ?_,aT⟩
 obtain ⟨v,hv,hr,_⟩:=fG hz (p:=p) (μ:=μ) (M:=M)
 obtain ⟨vs',r1,r2⟩:=oD (oB P fs) hk parts.toList qs ps z cs ob v.cells hq hps hb aZ (fun x hx=>by
  rw [ho];simp only [Op.operands,List.mem_toArray,List.mem_map];exact ⟨x,by simpa using hx,rfl⟩) hr
 refine ⟨.agg vs',?_,Rp.dh.2 ⟨_,rfl,r2⟩⟩
 have hpl:(fs.mapM (m:=Sem) fun f=>do pure (f.offset,← sizeOf f.type)).run P w= .ok (fs.map fun f=>(f.offset,P.cellsOf f.type)) w:=by
  rw [← Array.toArray_toList (xs:=fs),List.mapM_toArray]
  rw [Sem.run_map,run_places fs.toList (by simpa using Iz)]
  simp only [Result.andThen_ok]
  congr 1
  apply Array.ext'
  simp
 have hpe:∀ i,(fs.map fun f=>(f.offset,P.cellsOf f.type))[i]? =oB P fs i:=by
  intro i
  unfold oB
  rw [Array.getElem?_map]
  cases hi:fs[i]? with
  | none=>rfl
  | some f=>
   have hf:(P.info? f.type).isSome=true:=by
    have:=Array.all_eq_true_iff_forall_mem.1 Iz f (Array.mem_of_getElem? hi)
    exact this
   obtain ⟨j,hj⟩:=Option.isSome_iff_exists.1 hf
   simp [hj,Program.cellsOf]
 have hfill:Instr.fill ((fs.map fun f=>(f.offset,P.cellsOf f.type))[·]?) v.cells (parts.map fun (i,x)=>(i,a.eval x)).toList=some vs':=by
  rw [yb _ _ hpe]
  simpa using r1
 simp only [execOp,ho,Instr.build,Sem.run_bind,hv w,Result.andThen_ok,run_underlying ht,hpl,hfill,Sem.run_pure]
theorem F7 {t el:TypeId}{n:Nat}{parts:Array (Nat×Operand)}{ti:TypeInfo}{z:List SV}{qs:List (Nat×Nat×X)}(ho:o.op= .build t parts)(ht:P.underlying t=some (.array n el))(hz:fm P t=some z)
  (hi:P.info? el=some ti) (hq:jV (fun i=>some (i*ti.size,ti.size)) parts.toList=some qs) (he:cQ E H k own (.fZ z qs)=some e) (aZ:e.ob):Sound P o E H k e:=by
 simp only [cQ] at he
 split at he <;> first | (cases he;done) | skip
 rename_i ps hps
 split at he <;> first | (cases he;done) | skip
 rename_i cs ob hb
 injection he with he
 subst he
 refine ⟨OT.pure fun p μ M a w hk hS=> ?_,aT⟩
 obtain ⟨v,hv,hr,_⟩:=fG hz (p:=p) (μ:=μ) (M:=M)
 obtain ⟨vs',r1,r2⟩:=oD _ hk parts.toList qs ps z cs ob v.cells hq hps hb aZ (fun x hx=>by
  rw [ho];simp only [Op.operands,List.mem_toArray,List.mem_map];exact ⟨x,by simpa using hx,rfl⟩) hr
 refine ⟨.agg vs',?_,Rp.dh.2 ⟨_,rfl,r2⟩⟩
 have hfill:Instr.fill (fun i=>some (i*ti.size,ti.size)) v.cells (parts.map fun (i,x)=>(i,a.eval x)).toList=some vs':=by simpa using r1
 simp only [execOp,ho,Instr.build,Sem.run_bind,hv w,Result.andThen_ok,run_underlying ht,c_ hi,hfill,Sem.run_pure]
end
end
end Go.Sl
