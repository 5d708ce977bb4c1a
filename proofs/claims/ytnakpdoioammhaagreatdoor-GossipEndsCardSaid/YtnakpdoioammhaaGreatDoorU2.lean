/-
 What an operation gives (shadow), read off the program's own operation; and that the machine does so: all but append, maps, calls.
-/
import Derived.Test.YtnakpdoioammhaaGreatDoorU1
set_option linter.unusedSimpArgs false
set_option linter.unusedSectionVars false
set_option linter.unusedVariables false
namespace Go.Sl
open Go.RowKit
section
def yw:Bool→SV→SV→Option Bool
 | true,.d (.int k a),.d (.int k' b)=>if k=k' then some (a == b) else none
 | false,.d (.bool a),.d (.bool b)=>some (a == b)
 | _,_,_=>none
def eZ:List Bool→List SV→List SV→Option Bool
 | [],[],[]=>some true
 | k::ks,x::xs,y::ys=>match yw k x y,eZ ks xs ys with
  | some a,some b=>some (a && b)
  | _,_=>none
 | _,_,_=>none
def dP (op:BinOp)(k:IntKind)(a b:Int):Option (SV×Prop):=
 match op with
 | .add=>some (.d (.int k (k.wrap (a+b))),True)
 | .sub=>some (.d (.int k (k.wrap (a - b))),True)
 | .mul=>some (.d (.int k (k.wrap (a*b))),True)
 | .quo=>some (.d (.int k (k.wrap (a.tdiv b))),b≠0)
 | .rem=>some (.d (.int k (a.tmod b)),b≠0)
 | .and=>some (.d (.int k (bits .and k a b)),True)
 | .or=>some (.d (.int k (bits .or k a b)),True)
 | .xor=>some (.d (.int k (bits .xor k a b)),True)
 | .andNot=>some (.d (.int k (bits .andNot k a b)),True)
 | .shl=>some (.d (.int k (k.wrap (a*2 ^ b.toNat))),0≤b∧b≤k.bits)
 | .shr=>some (.d (.int k (a / 2 ^ b.toNat)),0≤b∧b≤k.bits)
 | .eql=>some (.d (.bool (a == b)),True)
 | .neq=>some (.d (.bool (a != b)),True)
 | .lss=>some (.d (.bool (decide (a<b))),True)
 | .leq=>some (.d (.bool (decide (a≤b))),True)
 | .gtr=>some (.d (.bool (decide (a>b))),True)
 | .geq=>some (.d (.bool (decide (a≥b))),True)
def dQ (op:BinOp)(k k':IntKind):Bool:=k == k' || op matches .shl || op matches .shr
def c9 (cells:List SV):List (Nat×Nat×SV)→Option (List SV×Prop)
 | []=>some (cells,True)
 | (off,n,s)::r=>if s.cells.all SV.aZ then match c9 (bV cells off s.cells) r with
   | some (cs,ob)=>some (cs,s.cells.length=n∧off+n≤cells.length∧ob)
   | none=>none
  else none
def gM (E:Nat→Option SV):List (Nat×Nat×X)→Option (List (Nat×Nat×SV))
 | []=>some []
 | (o,n,x)::r=>match ev E x,gM E r with
  | some s,some ss=>some ((o,n,s)::ss)
  | _,_=>none
def bC:List SV→Option (List DV)
 | []=>some []
 | .d x::r=>match bC r with
  | some xs=>some (x::xs)
  | none=>none
 | _::_=>none
def jh (n:Nat):SV→Option SV
 | .ptr m o=>some (.ptr m (o+n))
 | .vp cs i=>some (.vp cs (i+n))
 | _=>none
def dR (H:Nat→Option Ob)(e sz:Nat):Option SV→Option (Nat×List SV×Hp×(Nat→Prop))
 | some (.d .aY)=>some (0,[],[],fun _=>True)
 | some (.gs n len)=>match H n with
  | some (.arr e' sz' len' cs)=>some (len,cs,[(n,.arr e' sz' len' cs)],fun _=>e'=e∧sz'=sz∧len'=len)
  | _=>none
 | _=>none
def dL (H:Nat→Option Ob):Option SV→Option (Nat×List SV×Hp×Prop)
 | some (.d .aY)=>some (0,[],[],True)
 | some (.d (.sl m xs))=>some (m,xs.map .d,[],True)
 | some (.gs n m)=>match H n with
  | some (.arr e' sz' len' cs)=>some (m,cs,[(n,.arr e' sz' len' cs)],len'=m)
  | _=>none
 | _=>none
def bD:SV→Bool
 | .agg _=>true
 | _=>false
def bK (ks:List Bool)(agg:Bool)(key:SV):Bool:=bD key == agg && (eZ ks key.cells key.cells).isSome
def bM (ks:List Bool)(agg:Bool)(key:SV):List (Nat×SV×SV)→Nat→Option (Option Nat)
 | [],_=>some none
 | e ::r,i=>if bK ks agg e.2.1 then match eZ ks key.cells e.2.1.cells with
   | some true=>some (some i)
   | some false=>bM ks agg key r (i+1)
   | none=>none
  else none
def ck (es:List (Nat×SV×SV))(c:Nat)(key v:SV):Option Nat→Ob
 | some i=> .map (es.modify i fun e=>(e.1,e.2.1,v)) c
 | none=> .map (es++[(c,key,v)]) (c+1)
def cI (es:List (Nat×SV×SV))(c:Nat):Option Nat→Ob
 | some i=> .map (es.eraseIdx i) c
 | none=> .map es c
def xy (es:List (Nat×SV×SV))(c:Nat):Option Nat→Nat
 | some i=>match es[i]? with
  | some e=>e.1
  | none=>0
 | none=>c
def oR (es:List (Nat×SV×SV))(c:Nat)(key z:SV):Option Nat→Ob
 | some _=> .map es c
 | none=> .map (es++[(c,key,z)]) (c+1)
def bX (es:List (Nat×SV×SV))(z:SV):Option Nat→SV
 | some i=>match es[i]? with
  | some e=>e.2.2
  | none=>z
 | none=>z
def bE (ok:Bool)(v:SV)(b:Bool):SV:=if ok then .cW [v,.d (.bool b)] else v
def bW (E : Nat→Option SV)(H:Nat→Option Ob)(k:Nat)(own:Bool):SO→Option jH
  | .mv x=>match ev E x with
    | some s=>some ⟨s,[],[],0,True⟩
    | none=>none
  | .pick c a b=>match ev E c with
    | some (.d (.bool true))=>match ev E a with
      | some s=>some ⟨s,[],[],0,True⟩
      | none=>none
    | some (.d (.bool false))=>match ev E b with
      | some s=>some ⟨s,[],[],0,True⟩
      | none=>none
    | _=>none
  | .alloc t z=>some ⟨.ptr k 0,[],[(k,.box t z)],1,True⟩
  | .box t x=>match ev E x with
    | some s=>if s.cells.all SV.aZ then some ⟨.ptr k 0,[],[(k,.box t s.cells)],1,True⟩ else none
    | none=>none
  | .load sz x=>match ev E x with
    | some s=>match a_ H s with
      | some (cs,off,F)=>match iw cs off sz with
        | some v=>some ⟨v,F,F,0,fJ cs off sz⟩
        | none=>none
      | none=>none
    | none=>none
  | .store sz x v=>match ev E x,ev E v with
    | some (.ptr n off),some s=>if s.cells.all SV.aZ then match H n with
        | some (.box t cs)=>some ⟨.any,[(n,.box t cs)],[(n,.box t (bV cs off s.cells))],0,s.cells.length=sz∧off+sz≤cs.length⟩
        | some (.arr e z l cs)=>some ⟨.any,[(n,.arr e z l cs)],[(n,.arr e z l (bV cs off s.cells))],0,s.cells.length=sz∧off+sz≤cs.length∧0<sz⟩
        | _=>none
      else none
    | _,_=>none
  | .bp off x=>match ev E x with
    | some s=>match jh off s with
      | some v=>some ⟨v,[],[],0,True⟩
      | none=>none
    | none=>none
  | .kR len sz x i=>match ev E x,ev E i with
    | some s,some (.d (.int _ m))=>match jh (m.toNat*sz) s with
      | some v=>some ⟨v,[],[],0,0≤m∧m<(len:Int)⟩
      | none=>none
    | _,_=>none
  | .aW sz x i=>match ev E x,ev E i with
    | some (.d (.sl n cs)),some (.d (.int _ m))=>some ⟨.vp cs (m.toNat*sz),[],[],0,0≤m∧m<(n:Int)⟩
    | some (.gs n len),some (.d (.int _ m))=>some ⟨.ptr n (m.toNat*sz),[],[],0,0≤m∧m<(len:Int)⟩
    | some (.bs n off len),some (.d (.int _ m))=>some ⟨.ptr n (off+m.toNat*sz),[],[],0,0≤m∧m<(len:Int)⟩
    | _,_=>none
  | .field off sz x=>match ev E x with
    | some (.agg cs)=>match iw cs off sz with
      | some v=>some ⟨v,[],[],0,fJ cs off sz⟩
      | none=>none
    | _=>none
  | .index len sz agg x i=>match ev E x,ev E i with
    | some (.agg cs),some (.d (.int _ m))=>match iw cs (m.toNat*sz) (if agg then some sz else none) with
      | some v=>some ⟨v,[],[],0,(0≤m∧m<(len:Int))∧fJ cs (m.toNat*sz) (if agg then some sz else none)⟩
      | none=>none
    | _,_=>none
  | .bin op x y=>match ev E x,ev E y with
    | some (.d (.int k a)),some (.d (.int k' b))=>if dQ op k k' then match dP op k a b with
        | some (v,ob)=>some ⟨v,[],[],0,ob⟩
        | none=>none
      else none
    | _,_=>none
  | .eqv neg ks x y=>match ev E x,ev E y with
    | some (.agg s),some (.agg s')=>match eZ ks s s' with
      | some b=>some ⟨.d (.bool (bif neg then !b else b)),[],[],0,True⟩
      | none=>none
    | _,_=>none
  | .fV neg x y=>match ev E x,ev E y with
    | some (.d (.bool s)),some (.d (.bool s'))=>some ⟨.d (.bool (bif neg then !(s == s') else s == s')),[],[],0,True⟩
    | _,_=>none
  | .me neg kd x=>match kd,ev E x with
    | 0,some (.d .uo) | 1,some (.d .ir) | 2,some (.d .uq) | 3,some (.d .aY)=>some ⟨.d (.bool !neg),[],[],0,True⟩
    | 0,some (.ptr _ _) | 2,some (.fn _ _ _)=>some ⟨.d (.bool neg),[],[],0,True⟩
    | 1,some (.mp n)=>match H n with
      | some (.map es c)=>some ⟨.d (.bool neg),[(n,.map es c)],[(n,.map es c)],0,True⟩
      | some .eV=>some ⟨.d (.bool !neg),[(n,.eV)],[(n,.eV)],0,True⟩
      | _=>none
    | 0,some (.vp _ _)=>some ⟨.d (.bool neg),[],[],0,True⟩
    | 3,some (.gs _ n)=>some ⟨.d (.bool neg),[],[],0,n≠0⟩
    | _,_=>none
  | .not x=>match ev E x with
    | some (.d (.bool b))=>some ⟨.d (.bool !b),[],[],0,True⟩
    | _=>none
  | .conv k x=>match ev E x with
    | some (.d (.int _ n))=>some ⟨.d (.int k (k.wrap n)),[],[],0,True⟩
    | _=>none
  | .ext i x=>match ev E x with
    | some (.cW cs)=>match cs[i]? with
      | some v=>some ⟨v,[],[],0,True⟩
      | none=>none
    | _=>none
  | .gR x=>match ev E x with
    | some (.ptr n o)=>some ⟨.ptr n o,[],[],0,True⟩
    | some (.vp cs i)=>some ⟨.vp cs i,[],[],0,True⟩
    | _=>none
  | .ec z parts=>match gM E parts with
    | some ps=>match c9 z ps with
      | some (cs,ob)=>some ⟨.agg cs,[],[],0,ob⟩
      | none=>none
    | none=>none
  | .nV e sz len z parts=>match gM E parts with
    | some ps=>match c9 z ps with
      | some (cs,ob)=>if cs.all SV.aZ then
          if own || len == 0 then some ⟨.gs k len,[],[(k,.arr e sz len cs)],1,ob⟩
          else match bC cs with
            | some ds=>some ⟨.d (.sl len ds),[],[],0,ob⟩
            | none=>some ⟨.gs k len,[],[(k,.arr e sz len cs)],1,ob⟩
        else none
      | none=>none
    | none=>none
  | .slc sz x lo hi=>match ev E x with
    | some (.d (.sl n cs))=>match (match lo with | some l=>ev E l | none=>some (.d (.int .i64 0))),(match hi with | some h=>ev E h | none=>some (.d (.int .i64 n))) with
      | some (.d (.int _ l)),some (.d (.int _ h))=>some ⟨.d (.sl (h.toNat - l.toNat) ((cs.drop (l.toNat*sz)).take ((h.toNat - l.toNat)*sz))),[],[],0,0≤l∧l≤h∧h≤(n:Int)∧cs.length=n*sz⟩
      | _,_=>none
    | some (.d .aY)=>match (match lo with | some l=>ev E l | none=>some (.d (.int .i64 0))),(match hi with | some h=>ev E h | none=>some (.d (.int .i64 0))) with
      | some (.d (.int _ l)),some (.d (.int _ h))=>some ⟨.d .aY,[],[],0,l=0∧h=0⟩
      | _,_=>none
    | some (.gs n len)=>match H n with
      | some (.arr e z len' cs)=>match lo,(match hi with | some h=>ev E h | none=>some (.d (.int .i64 len))) with
        | none,some (.d (.int _ h))=>some ⟨.gs n h.toNat,[(n,.arr e z len' cs)],[(n,.arr e z len' cs)],0,0≤h∧h≤(len:Int)∧len'=len⟩
        | some l,some (.d (.int _ h))=>match ev E l with
          | some (.d (.int _ l))=>some ⟨.bs n (l.toNat*sz) (h.toNat - l.toNat),[(n,.arr e z len' cs)],[(n,.arr e z len' cs)],0,0≤l∧l<h∧h≤(len:Int)∧len'=len⟩
          | _=>none
        | _,_=>none
      | _=>none
    | _=>none
  | .yq n sz x lo hi=>match ev E x,(match lo with | some l=>ev E l | none=>some (.d (.int .i64 0))),(match hi with | some h=>ev E h | none=>some (.d (.int .i64 n))) with
    | some (.ptr m off),some (.d (.int _ l)),some (.d (.int _ h))=>some ⟨.bs m (off+l.toNat*sz) (h.toNat - l.toNat),[],[],0,0≤l∧l≤h∧h≤(n:Int)⟩
    | _,_,_=>none
  | .E4 x h m=>match ev E x,ev E h,ev E m with
    | some (.d (.sl n cs)),some (.d (.int _ h)),some (.d (.int _ m))=>some ⟨.d (.sl n cs),[],[],0,h=(n:Int)∧m=(n:Int)⟩
    | some (.d .aY),some (.d (.int _ h)),some (.d (.int _ m))=>some ⟨.d .aY,[],[],0,h=0∧m=0⟩
    | _,_,_=>none
  | .lens x=>match ev E x with
    | some (.d (.str s))=>some ⟨.d (.int .i64 s.length),[],[],0,True⟩
    | _=>none
  | .CD x i=>match ev E x,ev E i with
    | some (.d (.str s)),some (.d (.int _ n))=>some ⟨.d (.int .u8 ((s.getD n.toNat 0:Nat):Int)),[],[],0,0≤n∧n<(s.length:Int)⟩
    | _,_=>none
  | .neg x=>match ev E x with
    | some (.d (.int k n))=>some ⟨.d (.int k (k.wrap (-n))),[],[],0,True⟩
    | _=>none
  | .len x=>match ev E x with
    | some (.d (.sl n _))=>some ⟨.d (.int .i64 n),[],[],0,True⟩
    | some (.d .aY)=>some ⟨.d (.int .i64 0),[],[],0,True⟩
    | some (.gs _ n)=>some ⟨.d (.int .i64 n),[],[],0,True⟩
    | some (.bs _ _ n)=>some ⟨.d (.int .i64 n),[],[],0,True⟩
    | _=>none
  | .yu x=>match ev E x with
    | some (.d .ir)=>some ⟨.d (.int .i64 0),[],[],0,True⟩
    | some (.mp n)=>match H n with
      | some (.map es c)=>some ⟨.d (.int .i64 es.length),[(n,.map es c)],[(n,.map es c)],0,True⟩
      | some .eV=>some ⟨.d (.int .i64 0),[(n,.eV)],[(n,.eV)],0,True⟩
      | _=>none
    | _=>none
  | .look ks agg z m i ok=>match ev E m,ev E i with
    | some (.d .ir),some key=>if bK ks agg key then some ⟨bE ok z false,[],[],0,True⟩ else none
    | some (.mp n),some key=>match H n with
      | some (.map es c)=>if bK ks agg key then match bM ks agg key es 0 with
          | some r=>some ⟨bE ok (bX es z r) r.isSome,[(n,.map es c)],[(n,.map es c)],0,True⟩
          | none=>none
        else none
      | some .eV=>if bK ks agg key then some ⟨bE ok z false,[(n,.eV)],[(n,.eV)],0,True⟩ else none
      | _=>none
    | _,_=>none
  | .ur ks agg m i v=>match ev E m,ev E i,ev E v with
    | some (.mp n),some key,some s=>match H n with
      | some (.map es c)=>if bK ks agg key then match bM ks agg key es 0 with
          | some r=>some ⟨.any,[(n,.map es c)],[(n,ck es c key s r)],0,True⟩
          | none=>none
        else none
      | _=>none
    | _,_,_=>none
  | .xm ks agg z m i=>match ev E m,ev E i with
    | some (.mp n),some key=>match H n with
      | some (.map es c)=>if bK ks agg key then match bM ks agg key es 0 with
          | some r=>some ⟨.cW [bX es z r,.d (.int .i64 (xy es c r))],[(n,.map es c)],[(n,oR es c key z r)],0,True⟩
          | none=>none
        else none
      | _=>none
    | _,_=>none
  | .xo m s x=>match ev E m,ev E s,ev E x with
    | some (.mp n),some (.d (.int _ b)),some v=>match H n with
      | some (.map es c)=>match es.findIdx? (fun e=>(e.1:Int) == b) with
        | some j=>some ⟨.any,[(n,.map es c)],[(n,.map (es.modify j fun e=>(e.1,e.2.1,v)) c)],0,True⟩
        | none=>none
      | _=>none
    | _,_,_=>none
  | .HG sz z x=>match ev E x with
    | some (.bs n off len)=>match H n with
      | some (.arr e z' l cs)=>some ⟨.any,[(n,.arr e z' l cs)],[(n,.arr e z' l (bV cs off ((List.replicate len z).flatten)))],0,0<len∧off+len*sz≤cs.length⟩
      | _=>none
    | _=>none
  | .z_ ks agg m i=>match ev E m,ev E i with
    | some (.d .ir),some key=>if bK ks agg key then some ⟨.any,[],[],0,True⟩ else none
    | some (.mp n),some key=>match H n with
      | some (.map es c)=>if bK ks agg key then match bM ks agg key es 0 with
          | some r=>some ⟨.any,[(n,.map es c)],[(n,cI es c r)],0,True⟩
          | none=>none
        else none
      | some .eV=>if bK ks agg key then some ⟨.any,[(n,.eV)],[(n,.eV)],0,True⟩ else none
      | _=>none
    | _,_=>none
  | .p_ m=>match ev E m with
    | some (.d .ir)=>some ⟨.it k,[],[(k,.iter none 0 [] 0)],1,True⟩
    | some (.mp n)=>match H n with
      | some (.map es c)=>some ⟨.it k,[(n,.map es c)],[(n,.map es c),(k,.iter (some n) c [] c)],1,True⟩
      | some .eV=>some ⟨.it k,[(n,.eV)],[(n,.eV),(k,.iter none 0 [] 0)],1,True⟩
      | _=>none
    | _=>none
  | .tw x =>match ev E x with
    | some (.it n)=>match H n with
      | some (.iter (some m) since seen st)=>match H m with
        | some (.map es c)=>match seen.getLast? with
          | some stamp=>match es.find? (fun e=>e.1 == stamp) with
            | some e=>some ⟨.cW [e.2.1,e.2.2],[(n,.iter (some m) since seen st),(m,.map es c)],[(n,.iter (some m) since seen st),(m,.map es c)],0,c=st∧n≠m⟩
            | none=>none
          | none=>none
        | _=>none
      | _=>none
    | _=>none
  | .mx x y=>match ev E x,ev E y with
    | some (.d (.int k a)),some (.d (.int _ b))=>some ⟨.d (.int k (if b>a then b else a)),[],[],0,True⟩
    | _,_=>none
  | .mn x y=>match ev E x,ev E y with
    | some (.d (.int k a)),some (.d (.int _ b))=>some ⟨.d (.int k (if b<a then b else a)),[],[],0,True⟩
    | _,_=>none
  | .yt f first cap=>match fK E first,fK E cap with
    | some a,some c=>some ⟨.fn f a c,[],[],0,True⟩
    | _,_=>none
  | .ED=>some ⟨.mp k,[],[(k,.map [] 0)],1,True⟩
  | .copy e sz d x=>match ev E d,ev E x with
    | some (.bs n off len),some (.bs m off' len')=>match H n,H m with
      | some (.box t cs),some (.box t' cs')=>if cs'.all SV.aZ then some ⟨.d (.int .i64 len),[(n,.box t cs),(m,.box t' cs')],[(n,.box t (bV cs off ((cs'.drop off').take (len*sz)))),(m,.box t' cs')],0,n≠m∧0<len∧off+len*sz≤cs.length∧off'+len*sz≤cs'.length∧len=len'⟩ else none
      | _,_=>none
    | _,_=>none
  | .app e sz bytes s x=>match dR H e sz (ev E s),dL H (ev E x) with
    | some (n,cs,F,ob),some (m,news,F2,CF)=>
      if news.all SV.aZ then some ⟨.gs k (n+m),F++F2,(k,.arr e sz (n+m) (cs++news))::F2,1,ob m∧CF∧n+m≤9223372036854775807∧(n+m)*bytes≤140737488355328∧news.length=m*sz∧((F.map (·.1)).all fun a=>(F2.map (·.1)).all fun b=>a != b)=true⟩
      else none
    | _,_=>none
  | .HF e sz bytes z len cap=>match ev E len,ev E cap with
    | some (.d (.int _ l)),some (.d (.int _ c))=>some ⟨.gs k l.toNat,[],[(k,.arr e sz l.toNat ((List.replicate l.toNat z).flatten))],1,0≤l∧l≤c∧c≤9223372036854775807∧bytes*c≤281474976710656⟩
    | _,_=>none
  | _=>none
def Is (P:Program)(t:TypeId):Option (Nat×TypeId):=match P.underlying t with
 | some (.slice e)=>match P.info? e with
  | some i=>some (i.size,e)
  | none=>none
 | _=>none
def jE (pl:Nat→Option (Nat×Nat)):List (Nat×Operand)→Option (List (Nat×Nat×X))
 | []=>some []
 | (i,o)::r=>match pl i,cX o,jE pl r with
  | some (off,n),some x,some r'=>some ((off,n,x)::r')
  | _,_,_=>none
def mU (P:Program)(fs:Array Field)(i:Nat):Option (Nat×Nat):=match fs[i]? with
 | some f=>match P.info? f.type with
  | some j=>some (f.offset,j.size)
  | none=>none
 | none=>none
def jF:Option Operand→Option (Option X)
 | none=>some none
 | some o=>(cX o).map some
def Ad (sz:Option Nat)(n:Nat):Bool:=match sz with
 | none=>true
 | some m=>m == n
def isEq:BinOp→Bool
 | .eql | .neq=>true
 | _=>false
def dA:BinOp→Bool
 | .neq=>true
 | _=>false
def ux (P:Program)(t:TypeId)(y:Operand):Option Nat:=match P.underlying t,y with
 | some (.pointer _),.const (.pointer none)=>some 0
 | some (.map _ _),.const (.map none)=>some 1
 | some (.func _ _ _),.const .nilFunc=>some 2
 | some (.slice _),.const (.slice none 0 0)=>some 3
 | _,_=>none
def su (P:Program)(t:TypeId):Option SV:=match P.info? t with
 | some i=>match i.zero with
  | some z=>cV z
  | none=>none
 | none=>none
def kN (P:Program)(t:TypeId):Bool:=match dh P t with
 | some (some _)=>true
 | _=>false
def cO (P :Program):Op→Option SO
  | .move x | .assign x=>(cX x).map .mv
  | .pick c a b=>match cX c,cX a,cX b with
    | some c,some a,some b=>some (.pick c a b)
    | _,_,_=>none
  | .alloc t=>(eS P t).map (.alloc t)
  | .box t x=>(cX x).map (.box t)
  | .load t x=>match cX x,dh P t with
    | some y,some sz=>some (.load sz y)
    | _,_=>none
  | .store t x v=>match cX x,cX v,P.info? t with
    | some x,some v,some i=>some (.store i.size x v)
    | _,_,_=>none
  | .nilCheck x=>(cX x).map .gR
  | .binOp op t x y _=>
    if isEq op then
      match P.underlying t with
      | some (.int _)=>match cX x,cX y with
        | some x,some y=>some (.bin op x y)
        | _,_=>none
      | some .bool=>match cX x,cX y with
        | some x,some y=>some (.fV (dA op) x y)
        | _,_=>none
      | some (.struct _) | some (.array _ _)=>match cX x,cX y,bu P 10000 t with
        | some x,some y,some ks=>if P.eqGuardType P.depth t then none else some (.eqv (dA op) ks x y)
        | _,_,_=>none
      | _=>match ux P t y,cX x with
        | some kd,some x=>some (.me (dA op) kd x)
        | _,_=>none
    else match cX x,cX y with
      | some x,some y=>some (.bin op x y)
      | _,_=>none
  | .unOp .not _ x=>(cX x).map .not
  | .unOp .neg _ x=>(cX x).map .neg
  | .convert src dst x=>match P.underlying src,P.underlying dst,cX x with
    | some (.int _),some (.int k),some x=>some (.conv k x)
    | _,_,_=>none
  | .fieldAddr s x f=>match P.underlying s,cX x with
    | some (.struct fs),some x=>match fs[f]? with
      | some f=>match P.info? f.type with
        | some i=>if i.size=0 then none else some (.bp f.offset x)
        | none=>none
      | none=>none
    | _,_=>none
  | .field t x f=>match P.underlying t,cX x with
    | some (.struct fs),some x=>match fs[f]? with
      | some f=>match dh P f.type with
        | some sz=>some (.field f.offset sz x)
        | none=>none
      | none=>none
    | _,_=>none
  | .indexAddr t x i=>match P.underlying t,cX x,cX i with
    | some (.array n e),some x,some i=>match P.info? e with
      | some j=>some (.kR n j.size x i)
      | none=>none
    | some (.slice e),some x,some i=>match P.info? e with
      | some j=>some (.aW j.size x i)
      | none=>none
    | _,_,_=>none
  | .index t x i=>match P.underlying t,cX x,cX i with
    | some (.array n e),some x,some i=>match P.info? e,dh P e with
      | some j,some sz=>if Ad sz j.size then some (.index n j.size sz.isSome x i) else none
      | _,_=>none
    | some .string,some x,some i=>some (.CD x i)
    | _,_,_=>none
  | .extract x i=>(cX x).map (.ext i)
  | .build t parts=>match P.underlying t,eS P t with
    | some (.struct fs),some z=>if fs.all (fun f=>(P.info? f.type).isSome) then (jE (mU P fs) parts.toList).map (.ec z) else none
    | some (.array _ e),some z=>match P.info? e with
      | some j=>(jE (fun i=>some (i*j.size,j.size)) parts.toList).map (.ec z)
      | none=>none
    | _,_=>none
  | .buildSlice t len parts=>match P.underlying t with
    | some (.slice e)=>match P.info? e,eS P e with
      | some j,some z=>if (len*j.size≤16777216∧len≤16777216)∧z.length=j.size then (jE (fun i=>some (i*j.size,j.size)) parts.toList).map (.nV e j.size len ((List.replicate len z).flatten)) else none
      | _,_=>none
    | _=>none
  | .slice t x none (some h) (some m)=>match P.underlying t,cX x,cX h,cX m with
    | some (.slice e),some x,some h,some m=>match P.info? e with
      | some _=>some (.E4 x h m)
      | none=>none
    | _,_,_,_=>none
  | .slice t x lo hi none=>match P.underlying t,cX x,jF lo,jF hi with
    | some (.slice e),some x,some lo,some hi=>match P.info? e with
      | some j=>some (.slc j.size x lo hi)
      | none=>none
    | some (.array n e),some x,some lo,some hi=>match P.info? e with
      | some j=>some (.yq n j.size x lo hi)
      | none=>none
    | _,_,_,_=>none
  | .makeFunc f first cap=>match zU first.toList,zU cap.toList with
    | some a,some c=>some (.yt f a c)
    | _,_=>none
  | .makeMap t none=>some .ED
  | .makeSlice t l c=>match P.underlying t,cX l,cX c with
    | some (.slice e),some l,some c=>match P.info? e,eS P e with
      | some i,some z=>if z.length=i.size∧0<i.size then some (.HF e i.size i.bytes z l c) else none
      | _,_=>none
    | _,_,_=>none
  | .lookup t m i ok=>match P.underlying t,cX m,cX i with
    | some (.map kt et),some m,some i=>match bu P 10000 kt,su P et with
      | some ks,some z=>some (.look ks (kN P kt) z m i ok)
      | _,_=>none
    | _,_,_=>none
  | .mapUpdate t m i v | .insert t m i v=>match P.underlying t,cX m,cX i,cX v with
    | some (.map kt et),some m,some i,some v=>match bu P 10000 kt with
      | some ks=>some (.ur ks (kN P kt) m i v)
      | none=>none
    | _,_,_,_=>none
  | .mapEntry t m i=>match P.underlying t,cX m,cX i with
    | some (.map kt et),some m,some i=>match bu P 10000 kt,su P et with
      | some ks,some z=>some (.xm ks (kN P kt) z m i)
      | _,_=>none
    | _,_,_=>none
  | .entryStore t m s x=>match cX m,cX s,cX x with
    | some m,some s,some x=>some (.xo m s x)
    | _,_,_=>none
  | .range t m=>match P.underlying t,cX m with
    | some (.map _ _),some m=>some (.p_ m)
    | _,_=>none
  | .next it s=>if s then none else (cX it).map .mg
  | .entry it=>(cX it).map .tw
  | .call c=>match c.callee,c.args.toList,c.argTypes.toList with
    | .builtin .len,[x],[t]=>match P.underlying t,cX x with
      | some (.slice _),some x=>some (.len x)
      | some (.map _ _),some x=>some (.yu x)
      | some .string,some x=>some (.lens x)
      | _,_=>none
    | .builtin .clear,[x],[t]=>match P.underlying t,cX x with
      | some (.slice e),some x=>match P.info? e,eS P e with
        | some i,some z=>if z.length=i.size∧0<i.size then some (.HG i.size z x) else none
        | _,_=>none
      | _,_=>none
    | .builtin .copy,[x,y],[t,_]=>match P.underlying t,cX x,cX y with
      | some (.slice e),some x,some y=>match P.info? e with
        | some i=>some (.copy e i.size x y)
        | none=>none
      | _,_,_=>none
    | .builtin .delete,[m,i],[t,t']=>match P.underlying t,cX m,cX i with
      | some (.map kt et),some m,some i=>match bu P 10000 kt with
        | some ks=>some (.z_ ks (kN P kt) m i)
        | none=>none
      | _,_,_=>none
    | .builtin .append,[x,y],[t,t']=>if t=t' then match P.underlying t,cX x,cX y with
        | some (.slice e),some x,some y=>match P.info? e,eS P e with
          | some i,some z=>if z.length=i.size∧0<i.size then some (.app e i.size i.bytes x y) else none
          | _,_=>none
        | _,_,_=>none
      else none
    | .value f,args,_=>match cX f,zU args with
      | some f,some args=>some (.call f args)
      | _,_=>none
    | .builtin .max,[x,y],_=>match cX x,cX y with
      | some x,some y=>some (.mx x y)
      | _,_=>none
    | .builtin .min,[x,y],_=>match cX x,cX y with
      | some x,some y=>some (.mn x y)
      | _,_=>none
    | _,_,_=>none
  | _=>none
end
section
def Sound (P:Program)(o:Oper)(E:Nat→Option SV)(H:Nat→Option Ob)(k:Nat)(e:jH):Prop:=
 OT P o E e.F (fun n=>k≤n∧n<k+e.nk) e.v e.F'∧∀ n ob,lk e.F n=some ob→H n=some ob
section
variable {P:Program} {o:Oper} {E:Nat→Option SV} {H:Nat→Option Ob} {k:Nat} {own:Bool} {e:jH}
theorem aU:∀ n ob,lk ([]:Hp) n=some ob→H n=some ob:=fun n ob h=>by simp [bq] at h
theorem sub_one {n:Nat}{ob:Ob}(h:H n=some ob):∀ m iJ,lk [(n,ob)] m=some iJ→H m=some iJ:=fun m iJ hm=>by
 rw [cq] at hm
 split at hm
 ·rename_i e
  simp at hm
  subst hm;subst e
  exact h
 ·cases hm
theorem GI {x:Operand}{y:X}(ho:o.op= .move x∨o.op= .assign x)(hx:cX x=some y)(he:bW E H k own (.mv y)=some e):Sound P o E H k e:=by
 simp only [bW] at he
 split at he <;> first | (cases he;done) | skip
 rename_i s hs
 injection he with he
 subst he
 refine ⟨OT.pure fun p μ M a w hk hS=>⟨a.eval x,?_,hk.get (by rcases ho with h | h <;> simp [h,Op.operands]) hx hs⟩,aU⟩
 rcases ho with h | h <;> simp [execOp,h]
theorem E5 {c x y:Operand}{c' x' y':X}(ho:o.op= .pick c x y)(hc:cX c=some c')(hx:cX x=some x')(hy:cX y=some y')(he:bW E H k own (.pick c' x' y')=some e):Sound P o E H k e:=by
 simp only [bW] at he
 split at he <;> first | (cases he;done) | skip
 ·rename_i hb
  split at he <;> first | (cases he;done) | skip
  rename_i s hs
  injection he with he
  subst he
  refine ⟨OT.pure fun p μ M a w hk hS=>⟨a.eval x,?_,hk.get (by simp [ho,Op.operands]) hx hs⟩,aU⟩
  have:=Rp.bI.1 (hk.get (by simp [ho,Op.operands]) hc hb)
  simp [execOp,ho,this,asBool]
 ·rename_i hb
  split at he <;> first | (cases he;done) | skip
  rename_i s hs
  injection he with he
  subst he
  refine ⟨OT.pure fun p μ M a w hk hS=>⟨a.eval y,?_,hk.get (by simp [ho,Op.operands]) hy hs⟩,aU⟩
  have:=Rp.bI.1 (hk.get (by simp [ho,Op.operands]) hc hb)
  simp [execOp,ho,this,asBool]
theorem Rp.Ae {p:Nat→Prop}{μ:Nat→Nm}{M:Mem}{n off:Nat}(hp:p n):Rp p μ M (.ptr n off) (.pointer (some ⟨(μ n).blk,off,none⟩)):=fun bh h=>by
 simp [cG,h n hp]
theorem Rp.nZ {p:Nat→Prop}{μ:Nat→Nm}{M:Mem}{n off:Nat}{v:Value}(h:Rp p μ M (.ptr n off) v):v= .pointer (some ⟨(μ n).blk,off,none⟩):=by
 simpa [cG] using h.rep
theorem Rp.ji {p:Nat→Prop}{μ:Nat→Nm}{M:Mem}{n len:Nat}{v:Value}(h:Rp p μ M (.gs n len) v):((μ n).live=true∧v= .slice (some ⟨(μ n).blk,0,none⟩) len (μ n).cap)∨((μ n).live=false∧len=0∧∃ A,v= .slice A 0 0):=by
 simpa [cG] using h.rep
theorem CG {t:TypeId}{z:List SV}(ho:o.op= .alloc t)(hz:eS P t=some z)(he:bW E H k own (.alloc t z)=some e):Sound P o E H k e:=by
 simp only [bW] at he
 injection he with he
 subst he
 refine ⟨OT.make fun p μ M a w hk hM=> ?_,aU⟩
 obtain ⟨v,hv,_,h2⟩:=fh hz (p:=p) (μ:=μ) (M:=M)
 refine ⟨.pointer (some ⟨w.heap.size,0,none⟩),.cells v.cells t,0,?_,fun p' bh hp iu hpk hk'=>⟨⟨rfl,v.cells,ff w _,?_⟩,?_⟩⟩
 ·simp [execOp,ho,Instr.alloc,hv,newVar,newRow]
 ·obtain ⟨v',hv',h1',_⟩:=fh hz (p:=p') (μ:=bh) (M:=M)
  have:=hv w;rw [hv' w] at this
  injection this with this
  subst this
  exact h1'
 ·have:=Rp.Ae (μ:=bh) (M:=M) (n:=k) (off:=0) hpk
  rwa [hk'] at this
theorem GJ {t:TypeId}{x:Operand}{y:X}(ho:o.op= .box t x)(hx:cX x=some y)(he:bW E H k own (.box t y)=some e):Sound P o E H k e:=by
 simp only [bW] at he
 split at he <;> first | (cases he;done) | skip
 rename_i s hs
 split at he <;> first | (cases he;done) | skip
 rename_i hone
 injection he with he
 subst he
 refine ⟨OT.make fun p μ M a w hk hM=> ?_,aU⟩
 have hv:=hk.get (by simp [ho,Op.operands]) hx hs
 refine ⟨.pointer (some ⟨w.heap.size,0,none⟩),.cells (a.eval x).cells t,0,?_,fun p' bh hp iu hpk hk'=>⟨⟨rfl,(a.eval x).cells,ff w _,?_⟩,?_⟩⟩
 ·simp [execOp,ho,Instr.box,newVar,newRow]
 ·exact (Rp.cells hone (hv.more hp iu (Mem.le_refl M))).1
 ·have:=Rp.Ae (μ:=bh) (M:=M) (n:=k) (off:=0) hpk
  rwa [hk'] at this
theorem E6 {t:TypeId}{x:Operand}{y:X}{sz:Option Nat}(ho:o.op= .load t x)(hx:cX x=some y)(ht:dh P t=some sz)(he:bW E H k own (.load sz y)=some e)(bw:e.ob):Sound P o E H k e:=by
 simp only [bW] at he
 split at he <;> first | (cases he;done) | skip
 rename_i s hs
 split at he <;> first | (cases he;done) | skip
 rename_i cs off F hc
 split at he <;> first | (cases he;done) | skip
 rename_i v hv
 injection he with he
 subst he
 refine ⟨OT.pure fun p μ M a w hk hS=> ?_,oP hc⟩
 obtain ⟨b,q,e1,hr⟩:=mm hc (hk.get (by simp [ho,Op.operands]) hx hs) hS
 obtain ⟨u,hu,hr'⟩:=xx ht hv bw hr
 refine ⟨u,?_,hr'⟩
 simp [execOp,ho,Instr.loadAt,e1,Instr.sureAddr,hu]
theorem E7 {x:Operand}{y:X}(ho:o.op= .nilCheck x)(hx:cX x=some y)(he:bW E H k own (.gR y)=some e):Sound P o E H k e:=by
 simp only [bW] at he
 split at he <;> first | (cases he;done) | skip
 ·rename_i n off hs
  injection he with he
  subst he
  refine ⟨OT.pure fun p μ M a w hk hS=>⟨a.eval x,?_,hk.get (by simp [ho,Op.operands]) hx hs⟩,aU⟩
  have:=(hk.get (by simp [ho,Op.operands]) hx hs).nZ
  simp [execOp,ho,this]
 ·rename_i cs i hs
  injection he with he
  subst he
  refine ⟨OT.pure fun p μ M a w hk hS=>⟨a.eval x,?_,hk.get (by simp [ho,Op.operands]) hx hs⟩,aU⟩
  obtain ⟨b,q,e1,_⟩:=(by simpa [cG] using (hk.get (by simp [ho,Op.operands]) hx hs).rep:∃ b q,a.eval x= .pointer (some ⟨b,q+i,none⟩)∧cD M b q cs)
  simp [execOp,ho,e1]
theorem GK {t:TypeId}{x:Operand}{y:X}(ho:o.op= .unOp .not t x)(hx:cX x=some y)(he:bW E H k own (.not y)=some e):Sound P o E H k e:=by
 simp only [bW] at he
 split at he <;> first | (cases he;done) | skip
 rename_i b hs
 injection he with he
 subst he
 refine ⟨OT.pure fun p μ M a w hk hS=>⟨.bool !b,?_,Rp.bI.2 rfl⟩,aU⟩
 have:=Rp.bI.1 (hk.get (by simp [ho,Op.operands]) hx hs)
 simp [execOp,ho,this,Op.unary]
theorem GL {t:TypeId}{x:Operand}{y:X}(ho:o.op= .unOp .neg t x)(hx:cX x=some y)(he:bW E H k own (.neg y)=some e):Sound P o E H k e:=by
 simp only [bW] at he
 split at he <;> first | (cases he;done) | skip
 rename_i kd n hs
 injection he with he
 subst he
 refine ⟨OT.pure fun p μ M a w hk hS=>⟨.int kd (kd.wrap (-n)),?_,Rp.aS.2 rfl⟩,aU⟩
 have:=Rp.aS.1 (hk.get (by simp [ho,Op.operands]) hx hs)
 simp [execOp,ho,this,Op.unary,Op.intArith]
theorem E8 {s d:TypeId}{x:Operand}{y:X}{ks kd:IntKind}(ho:o.op= .convert s d x)(h1:P.underlying s=some (.int ks))(h2:P.underlying d=some (.int kd))(hx:cX x=some y)
  (he:bW E H k own (.conv kd y)=some e):Sound P o E H k e:=by
 simp only [bW] at he
 split at he <;> first | (cases he;done) | skip
 rename_i kk n hs
 injection he with he
 subst he
 refine ⟨OT.pure fun p μ M a w hk hS=>⟨.int kd (kd.wrap n),?_,Rp.aS.2 rfl⟩,aU⟩
 have:=Rp.aS.1 (hk.get (by simp [ho,Op.operands]) hx hs)
 simp [execOp,ho,this,convert,run_underlying h1,run_underlying h2,Conv.intToInt]
theorem GM {x:Operand}{y:X}{i:Nat}(ho:o.op= .extract x i)(hx:cX x=some y)(he:bW E H k own (.ext i y)=some e):Sound P o E H k e:=by
 simp only [bW] at he
 split at he <;> first | (cases he;done) | skip
 rename_i cs hs
 split at he <;> first | (cases he;done) | skip
 rename_i v hv
 injection he with he
 subst he
 refine ⟨OT.pure fun p μ M a w hk hS=> ?_,aU⟩
 obtain ⟨vs,e1,hr⟩:=Rp.dN.1 (hk.get (by simp [ho,Op.operands]) hx hs)
 obtain ⟨u,hu,hu'⟩:=hr.get hv
 refine ⟨u,?_,hu'⟩
 have:vs[i]? =some u:=by simpa using hu
 simp [execOp,ho,e1,Instr.extract,this]
theorem E9 {c:Call}{t:TypeId}{x:Operand}{y:X}(ho:o.op= .call c)(bU:c.callee= .builtin .len)(ha:c.args.toList=[x])(jK:c.argTypes.toList=[t])(ht:P.underlying t=some .string)
  (hx:cX x=some y) (he:bW E H k own (.lens y)=some e):Sound P o E H k e:=by
 have ha':c.args= #[x]:=by cases hh:c.args;simp [hh] at ha;simp [ha]
 have hat':c.argTypes= #[t]:=by cases hh:c.argTypes;simp [hh] at jK;simp [jK]
 have hin:x∈o.op.operands:=by simp [ho,Op.operands,Call.operands,bU,ha']
 simp only [bW] at he
 split at he <;> first | (cases he;done) | skip
 rename_i s hs
 injection he with he
 subst he
 refine ⟨OT.pure fun p μ M a w hk hS=>⟨.int .i64 s.length,?_,Rp.aS.2 rfl⟩,aU⟩
 obtain ⟨b,e1,rfl⟩:=(by simpa [bT] using Rp.cu.1 (hk.get hin hx hs):∃ b:ByteArray,a.eval x= .string b∧b.data.toList.map UInt8.toNat=s)
 simp [execOp,ho,resolve,bU,ha',hat',invoke,builtin,e1,Builtin.len_,run_underlying ht,goInt]
theorem Af {b:ByteArray}{i:Nat}(h:i<b.data.size):b[i]? =some (b.data[i]):=by
 have h':i<b.size:=h
 rw [getElem?_pos b i h']
 rfl
theorem E_ {t:TypeId}{x i:Operand}{y j:X}(ho:o.op= .index t x i)(ht:P.underlying t=some .string)(hx:cX x=some y)(hj:cX i=some j)
  (he:bW E H k own (.CD y j)=some e) (bw:e.ob):Sound P o E H k e:=by
 simp only [bW] at he
 split at he <;> first | (cases he;done) | skip
 rename_i s kk n hs hn
 injection he with he
 subst he
 refine ⟨OT.pure fun p μ M a w hk hS=>⟨.int .u8 ((s.getD n.toNat 0:Nat):Int),?_,Rp.aS.2 rfl⟩,aU⟩
 obtain ⟨b,e1,rfl⟩:=(by simpa [bT] using Rp.cu.1 (hk.get (by simp [ho,Op.operands]) hx hs):∃ b:ByteArray,a.eval x= .string b∧b.data.toList.map UInt8.toNat=s)
 have e2:=Rp.aS.1 (hk.get (by simp [ho,Op.operands]) hj hn)
 obtain ⟨h1,h2⟩:=bw
 have h3:n.toNat<b.data.size:=by
  show n.toNat<b.size
  simp at h2;omega
 have h4:=Af h3
 have h5:b.data[n.toNat]? =some b.data[n.toNat]:=Array.getElem?_eq_getElem h3
 simp [execOp,ho,Instr.index,run_underlying ht,e1,e2,asIntOf,h1,h4,h5]
theorem GN {c:Call}{t:TypeId}{x:Operand}{y:X}{el:TypeId}(ho:o.op= .call c)(bU:c.callee= .builtin .len)(ha:c.args.toList=[x])(jK:c.argTypes.toList=[t])(ht:P.underlying t=some (.slice el))
  (hx:cX x=some y) (he:bW E H k own (.len y)=some e):Sound P o E H k e:=by
 have ha':c.args= #[x]:=by cases hh:c.args;simp [hh] at ha;simp [ha]
 have hat':c.argTypes= #[t]:=by cases hh:c.argTypes;simp [hh] at jK;simp [jK]
 have hin:x∈o.op.operands:=by simp [ho,Op.operands,Call.operands,bU,ha']
 have run:∀ (a:Act) (w:World) (A:Option Addr) (n cp:Nat),a.eval x= .slice A n cp→(execOp a.eval o).run P w= .ok (.value (.int .i64 n)) w:=by
  intro a w A n cp h
  simp [execOp,ho,resolve,bU,ha',hat',invoke,builtin,h,Builtin.len_,run_underlying ht,goInt]
 simp only [bW] at he
 split at he <;> first | (cases he;done) | skip
 ·rename_i n cs hs
  injection he with he
  subst he
  refine ⟨OT.pure fun p μ M a w hk hS=>⟨.int .i64 n,?_,Rp.aS.2 rfl⟩,aU⟩
  obtain ⟨A,cp,e1,_⟩:=(by simpa [bT] using Rp.cu.1 (hk.get hin hx hs):∃ A cp,a.eval x= .slice A n cp∧_)
  exact run a w A n cp e1
 ·rename_i hs
  injection he with he
  subst he
  refine ⟨OT.pure fun p μ M a w hk hS=>⟨.int .i64 0,?_,Rp.aS.2 rfl⟩,aU⟩
  have e1:a.eval x= .slice none 0 0:=by simpa [bT] using Rp.cu.1 (hk.get hin hx hs)
  exact run a w none 0 0 e1
 ·rename_i m n hs
  injection he with he
  subst he
  refine ⟨OT.pure fun p μ M a w hk hS=>⟨.int .i64 n,?_,Rp.aS.2 rfl⟩,aU⟩
  rcases (hk.get hin hx hs).ji with ⟨_,e1⟩ | ⟨_,rfl,_,e1⟩
  ·exact run a w _ n _ e1
  ·exact run a w _ 0 _ e1
 ·rename_i m off n hs
  injection he with he
  subst he
  refine ⟨OT.pure fun p μ M a w hk hS=>⟨.int .i64 n,?_,Rp.aS.2 rfl⟩,aU⟩
  obtain ⟨A,c,e1,_⟩:=(by simpa [cG] using (hk.get hin hx hs).rep:∃ A c,a.eval x= .slice (some A) n c∧_)
  exact run a w _ n _ e1
theorem HQ {c:Call}{x y:Operand}{x' y':X}(ho:o.op= .call c)(bU:c.callee= .builtin .max)(ha:c.args.toList=[x,y])
  (hx:cX x=some x') (hy:cX y=some y') (he:bW E H k own (.mx x' y')=some e):Sound P o E H k e:=by
 have ha':c.args= #[x,y]:=by cases hh:c.args;simp [hh] at ha;simp [ha]
 simp only [bW] at he
 split at he <;> first | (cases he;done) | skip
 rename_i kk m HR n h1 h2
 injection he with he
 subst he
 refine ⟨OT.pure fun p μ M a w hk hS=>⟨_,?_,Rp.aS.2 rfl⟩,aU⟩
 have e1:=Rp.aS.1 (hk.get (by simp [ho,Op.operands,Call.operands,bU,ha']) hx h1)
 have e2:=Rp.aS.1 (hk.get (by simp [ho,Op.operands,Call.operands,bU,ha']) hy h2)
 simp [execOp,ho,resolve,bU,ha',invoke,builtin,e1,e2,Builtin.max_,Builtin.max2]
theorem HS {c:Call}{x y:Operand}{x' y':X}(ho:o.op= .call c)(bU:c.callee= .builtin .min)(ha:c.args.toList=[x,y])
  (hx:cX x=some x') (hy:cX y=some y') (he:bW E H k own (.mn x' y')=some e):Sound P o E H k e:=by
 have ha':c.args= #[x,y]:=by cases hh:c.args;simp [hh] at ha;simp [ha]
 simp only [bW] at he
 split at he <;> first | (cases he;done) | skip
 rename_i kk m HR n h1 h2
 injection he with he
 subst he
 refine ⟨OT.pure fun p μ M a w hk hS=>⟨_,?_,Rp.aS.2 rfl⟩,aU⟩
 have e1:=Rp.aS.1 (hk.get (by simp [ho,Op.operands,Call.operands,bU,ha']) hx h1)
 have e2:=Rp.aS.1 (hk.get (by simp [ho,Op.operands,Call.operands,bU,ha']) hy h2)
 simp [execOp,ho,resolve,bU,ha',invoke,builtin,e1,e2,Builtin.min_,Builtin.min2]
theorem GO {f:Fn}{a c:Array Operand}{a' c':List X}(ho:o.op= .makeFunc f a c)(ha:zU a.toList=some a')(hc:zU c.toList=some c')(he:bW E H k own (.yt f a' c')=some e):Sound P o E H k e:=by
 simp only [bW] at he
 split at he <;> first | (cases he;done) | skip
 rename_i s s' h1 h2
 injection he with he
 subst he
 refine ⟨OT.pure fun p μ M ac w hk hS=>⟨.func f (a.map ac.eval) (c.map ac.eval),by simp [execOp,ho,Instr.makeFunc],Rp.nU.2 ⟨_,_,rfl,?_,?_⟩⟩,aU⟩
 ·simpa using hk.Ac (os:=a.toList) (fun x hx=>by rw [ho];simp only [Op.operands,Array.mem_append];exact .inl (by simpa using hx)) ha h1
 ·simpa using hk.Ac (os:=c.toList) (fun x hx=>by rw [ho];simp only [Op.operands,Array.mem_append];exact .inr (by simpa using hx)) hc h2
theorem GP {t:TypeId}(ho:o.op= .makeMap t none)(he:bW E H k own .ED=some e):Sound P o E H k e:=by
 simp only [bW] at he
 injection he with he
 subst he
 refine ⟨OT.make fun p μ M a w hk hM=>⟨.map (some w.heap.size),.map #[] 0,0,?_,fun p' bh hp iu hpk hk'=>⟨⟨rfl,#[],ff w _,by simp [fD]⟩,fun ν fQ=> ?_⟩⟩,aU⟩
 ·simp [execOp,ho,Instr.makeMap]
 ·exact .inl (by simp [fQ k hpk,hk'])
theorem xz {n:Nat}{s v:SV}(h:jh n s=some v){p:Nat→Prop}{μ:Nat→Nm}{M:Mem}{u:Value}(hu:Rp p μ M s u):
  ∃ b q,u= .pointer (some ⟨b,q,none⟩)∧Rp p μ M v (.pointer (some ⟨b,q+n,none⟩)):=by
 cases s <;> simp [jh] at h
 case ptr m off=>
  subst h
  refine ⟨(μ m).blk,off,hu.nZ,fun ν fQ=> ?_⟩
  have h1:=hu ν fQ
  have h2:=hu.rep
  simp only [cG] at h1 h2 ⊢
  rw [h2] at h1
  injection h1 with h1
  injection h1 with h1
  injection h1 with h1
  rw [h1]
 case vp cs i=>
  subst h
  obtain ⟨b,q,e1,hr⟩:=(by simpa [cG] using hu.rep:∃ b q,u= .pointer (some ⟨b,q+i,none⟩)∧cD M b q cs)
  refine ⟨b,q+i,e1,fun ν fQ=> ?_⟩
  simp only [cG]
  exact ⟨b,q,by rw [Nat.add_assoc],hr⟩
theorem GQ {s:TypeId}{x:Operand}{y:X}{f:Nat}{fs:Array Field}{fl:Field}{i:TypeInfo}(ho:o.op= .fieldAddr s x f)(hs:P.underlying s=some (.struct fs))(hf:fs[f]? =some fl)
  (hi:P.info? fl.type=some i) (HT: ¬ i.size=0) (hx:cX x=some y) (he:bW E H k own (.bp fl.offset y)=some e):Sound P o E H k e:=by
 simp only [bW] at he
 split at he <;> first | (cases he;done) | skip
 rename_i sv hsv
 split at he <;> first | (cases he;done) | skip
 rename_i v hv
 injection he with he
 subst he
 refine ⟨OT.pure fun p μ M a w hk hS=> ?_,aU⟩
 obtain ⟨b,q,e1,hr⟩:=xz hv (hk.get (by simp [ho,Op.operands]) hx hsv)
 refine ⟨_,?_,hr⟩
 simp [execOp,ho,Instr.fieldAt,run_underlying hs,hf,e1,Instr.sureAddr,fieldPlace,di hi,HT,dy]
theorem Fa {t el:TypeId}{n:Nat}{x i:Operand}{y j:X}{ti:TypeInfo}(ho:o.op= .indexAddr t x i)(ht:P.underlying t=some (.array n el))(hi:P.info? el=some ti)(hx:cX x=some y)(hj:cX i=some j)
  (he:bW E H k own (.kR n ti.size y j)=some e) (bw:e.ob):Sound P o E H k e:=by
 simp only [bW] at he
 split at he <;> first | (cases he;done) | skip
 rename_i s kk m hs hm
 split at he <;> first | (cases he;done) | skip
 rename_i v hv
 injection he with he
 subst he
 refine ⟨OT.pure fun p μ M a w hk hS=> ?_,aU⟩
 obtain ⟨b,q,e1,hr⟩:=xz hv (hk.get (by simp [ho,Op.operands]) hx hs)
 have e2:=Rp.aS.1 (hk.get (by simp [ho,Op.operands]) hj hm)
 refine ⟨_,?_,hr⟩
 simp [execOp,ho,Instr.indexAt,run_underlying ht,e1,e2,Instr.sureAddr,asIntOf,di hi,bw.1,bw.2,dy]
theorem Fb {t el:TypeId}{x i:Operand}{y j:X}{ti:TypeInfo}(ho:o.op= .indexAddr t x i)(ht:P.underlying t=some (.slice el))(hi:P.info? el=some ti)(hx:cX x=some y)(hj:cX i=some j)
  (he:bW E H k own (.aW ti.size y j)=some e) (bw:e.ob):Sound P o E H k e:=by
 simp only [bW] at he
 split at he <;> first | (cases he;done) | skip
 ·rename_i n cs kk m hs hm
  injection he with he
  subst he
  refine ⟨OT.pure fun p μ M a w hk hS=> ?_,aU⟩
  have hob1:0≤m:=bw.1
  have hob2:m<(n:Int):=bw.2
  obtain ⟨A,cp,e1,_,_,h4⟩:=(by simpa [bT] using Rp.cu.1 (hk.get (by simp [ho,Op.operands]) hx hs):∃ A cp,a.eval x= .slice A n cp∧n≤cp∧(n=0→cs=[])∧(0<n→∃ b q,A=some ⟨b,q,none⟩∧cD M b q cs))
  obtain ⟨b,q,rfl,hr⟩:=h4 (by omega)
  have e2:=Rp.aS.1 (hk.get (by simp [ho,Op.operands]) hj hm)
  refine ⟨.pointer (some ⟨b,q+m.toNat*ti.size,none⟩),?_,fun ν fQ=> ?_⟩
  ·simp [execOp,ho,Instr.indexAt,run_underlying ht,e1,e2,asIntOf,di hi,hob1,hob2,dy]
  ·simp only [cG]
   exact ⟨b,q,rfl,hr⟩
 ·rename_i n l kk m hs hm
  injection he with he
  subst he
  refine ⟨OT.pure fun p μ M a w hk hS=> ?_,aU⟩
  have hob1:0≤m:=bw.1
  have hob2:m<(l:Int):=bw.2
  have hs':=hk.get (by simp [ho,Op.operands]) hx hs
  obtain ⟨hl,e1⟩:(μ n).live=true∧a.eval x= .slice (some ⟨(μ n).blk,0,none⟩) l (μ n).cap:=by
   rcases hs'.ji with h | ⟨_,h,_⟩
   ·exact h
   ·omega
  have e2:=Rp.aS.1 (hk.get (by simp [ho,Op.operands]) hj hm)
  refine ⟨.pointer (some ⟨(μ n).blk,0+m.toNat*ti.size,none⟩),?_,fun ν fQ=> ?_⟩
  ·simp [execOp,ho,Instr.indexAt,run_underlying ht,e1,e2,asIntOf,di hi,hob1,hob2,dy]
  ·have:=hs' ν fQ
   rw [e1] at this
   simp only [cG] at this ⊢
   rcases this with ⟨_,this⟩ | ⟨_,h,_⟩
   ·injection this with t1
    injection t1 with t1
    injection t1 with t1
    rw [t1]
    simp
   ·omega
 ·rename_i n off l kk m hs hm
  injection he with he
  subst he
  refine ⟨OT.pure fun p μ M a w hk hS=> ?_,aU⟩
  have hob1:0≤m:=bw.1
  have hob2:m<(l:Int):=bw.2
  have hs':=hk.get (by simp [ho,Op.operands]) hx hs
  obtain ⟨A,c,e1,_,hA⟩:=(by simpa [cG] using hs'.rep:∃ A c,a.eval x= .slice (some A) l c∧l≤c∧(¬ l=0→A=⟨(μ n).blk,off,none⟩))
  have hA:=hA (by omega)
  subst hA
  have e2:=Rp.aS.1 (hk.get (by simp [ho,Op.operands]) hj hm)
  refine ⟨.pointer (some ⟨(μ n).blk,off+m.toNat*ti.size,none⟩),?_,fun ν fQ=> ?_⟩
  ·simp [execOp,ho,Instr.indexAt,run_underlying ht,e1,e2,asIntOf,di hi,hob1,hob2,dy]
  ·have:=hs' ν fQ
   rw [e1] at this
   simp only [cG] at this ⊢
   obtain ⟨A,c',h1,_,h2⟩:=this
   injection h1 with h1
   injection h1 with h1
   have h2:=h2 (by omega)
   rw [← h1] at h2
   injection h2 with h2
   rw [h2]
theorem CH {op:BinOp}{t:TypeId}{w:World}{ka kb:IntKind}{a b:Int}{v:SV}{ob:Prop}(hk:dQ op ka kb=true)(h:dP op ka a b=some (v,ob))(bw:ob):
  ∃ u,(binOp op t (.int ka a) (.int kb b)).run P w= .ok u w∧∀ (p:Nat→Prop) (μ:Nat→Nm) (M:Mem),Rp p μ M v u:=by
 cases op <;> simp [dQ] at hk <;> simp only [dP,Option.some.injEq,Prod.mk.injEq] at h <;> obtain ⟨rfl,rfl⟩:=h <;> (try subst hk)
 case add=>exact ⟨_,by rw [binOp_add];rfl,fun _ _ _=>Rp.aS.2 rfl⟩
 case sub=>exact ⟨_,by rw [binOp_sub];rfl,fun _ _ _=>Rp.aS.2 rfl⟩
 case mul=>exact ⟨_,by rw [binOp_mul];rfl,fun _ _ _=>Rp.aS.2 rfl⟩
 case quo=>exact ⟨_,by rw [binOp_quo];simp [Op.intDiv,bw],fun _ _ _=>Rp.aS.2 rfl⟩
 case rem=>exact ⟨_,by rw [binOp_rem];simp [Op.intDiv,bw],fun _ _ _=>Rp.aS.2 rfl⟩
 case and=>exact ⟨_,by rw [binOp_and];rfl,fun _ _ _=>Rp.aS.2 rfl⟩
 case or=>exact ⟨_,by rw [binOp_or];rfl,fun _ _ _=>Rp.aS.2 rfl⟩
 case xor=>exact ⟨_,by rw [binOp_xor];rfl,fun _ _ _=>Rp.aS.2 rfl⟩
 case andNot=>exact ⟨_,by rw [binOp_andNot];rfl,fun _ _ _=>Rp.aS.2 rfl⟩
 case shl=>exact ⟨_,by rw [binOp_shl,shift_shl ka kb a b bw.1 bw.2];rfl,fun _ _ _=>Rp.aS.2 rfl⟩
 case shr=>exact ⟨_,by rw [binOp_shr,shift_shr ka kb a b bw.1 bw.2];rfl,fun _ _ _=>Rp.aS.2 rfl⟩
 case eql=>exact ⟨_,by rw [binOp_eql];rfl,fun _ _ _=>Rp.bI.2 rfl⟩
 case neq=>exact ⟨_,by rw [binOp_neq];rfl,fun _ _ _=>Rp.bI.2 rfl⟩
 case lss=>exact ⟨_,by rw [binOp_lss];rfl,fun _ _ _=>Rp.bI.2 rfl⟩
 case leq=>exact ⟨_,by rw [binOp_leq];rfl,fun _ _ _=>Rp.bI.2 rfl⟩
 case gtr=>exact ⟨_,by rw [binOp_gtr];rfl,fun _ _ _=>Rp.bI.2 rfl⟩
 case geq=>exact ⟨_,by rw [binOp_geq];rfl,fun _ _ _=>Rp.bI.2 rfl⟩
theorem EE {op:BinOp}{t t':TypeId}{x y:Operand}{x' y':X}(ho:o.op= .binOp op t x y t')(hx:cX x=some x')(hy:cX y=some y')(he:bW E H k own (.bin op x' y')=some e)(bw:e.ob):Sound P o E H k e:=by
 simp only [bW] at he
 split at he <;> first | (cases he;done) | skip
 rename_i ka a kb b h1 h2
 split at he <;> first | (cases he;done) | skip
 rename_i hkk
 split at he <;> first | (cases he;done) | skip
 rename_i v ob hv
 injection he with he
 subst he
 refine ⟨OT.pure fun p μ M ac w hk hS=> ?_,aU⟩
 have e1:=Rp.aS.1 (hk.get (by simp [ho,Op.operands]) hx h1)
 have e2:=Rp.aS.1 (hk.get (by simp [ho,Op.operands]) hy h2)
 obtain ⟨u,hu,hr⟩:=CH (P:=P) (t:=t) (w:=w) hkk hv bw
 refine ⟨u,?_,hr p μ M⟩
 simp [execOp,ho,e1,e2,eqGuard_at_int,hu]
end
end
section
section
variable {P:Program} {o:Oper} {E:Nat→Option SV} {H:Nat→Option Ob} {k:Nat} {own:Bool} {e:jH}
theorem uy {w:World}{t:TypeId}{sz:Option Nat}(ht:dh P t=some sz){cs:List SV}{vs:Array Value}{off:Nat}{s:SV}(h:iw cs off sz=some s)(hle:fJ cs off sz){p:Nat→Prop}{μ:Nat→Nm}{M:Mem}
  (hr:aQ p μ M cs vs.toList):∃ v,(part t vs off).run P w= .ok v w∧Rp p μ M s v:=by
 cases sz with
 | none=>
  obtain ⟨u,hu,hr'⟩:=hr.get h
  have hu':vs[off]? =some u:=by simpa using hu
  exact ⟨u,by simp [part,nX ht,hu'],hr'⟩
 | some m=>
  simp only [fJ] at hle
  simp [iw] at h
  subst h
  refine ⟨.agg (vs.extract off (off+m)),by simp [part,(iE ht).1,(iE ht).2],Rp.c8.2 ⟨_,rfl,?_⟩⟩
  have:=(hr.drop off).take m
  simpa using this
theorem CI {t:TypeId}{x:Operand}{y:X}{f:Nat}{fs:Array Field}{fl:Field}{sz:Option Nat}(ho:o.op= .field t x f)(hs:P.underlying t=some (.struct fs))(hf:fs[f]? =some fl)
  (hz:dh P fl.type=some sz) (hx:cX x=some y) (he:bW E H k own (.field fl.offset sz y)=some e) (bw:e.ob):Sound P o E H k e:=by
 simp only [bW] at he
 split at he <;> first | (cases he;done) | skip
 rename_i cs hcs
 split at he <;> first | (cases he;done) | skip
 rename_i v hv
 injection he with he
 subst he
 refine ⟨OT.pure fun p μ M a w hk hS=> ?_,aU⟩
 obtain ⟨vs,e1,hr⟩:=Rp.c8.1 (hk.get (by simp [ho,Op.operands]) hx hcs)
 obtain ⟨u,hu,hr'⟩:=uy (P:=P) (w:=w) hz hv bw hr
 refine ⟨u,?_,hr'⟩
 simp [execOp,ho,Instr.field,run_underlying hs,hf,e1,asAgg,hu]
theorem CJ {t el:TypeId}{n:Nat}{x i:Operand}{y j:X}{ti:TypeInfo}{sz:Option Nat}(ho:o.op= .index t x i)(ht:P.underlying t=some (.array n el))(hi:P.info? el=some ti)(hz:dh P el=some sz)
  (EF:sz=(if sz.isSome then some ti.size else none)) (hx:cX x=some y) (hj:cX i=some j) (he:bW E H k own (.index n ti.size sz.isSome y j)=some e) (bw:e.ob):Sound P o E H k e:=by
 simp only [bW] at he
 split at he <;> first | (cases he;done) | skip
 rename_i cs kk m hs hm
 rw [← EF] at he
 split at he <;> first | (cases he;done) | skip
 rename_i v hv
 injection he with he
 subst he
 refine ⟨OT.pure fun p μ M a w hk hS=> ?_,aU⟩
 obtain ⟨vs,e1,hr⟩:=Rp.c8.1 (hk.get (by simp [ho,Op.operands]) hx hs)
 have e2:=Rp.aS.1 (hk.get (by simp [ho,Op.operands]) hj hm)
 obtain ⟨u,hu,hr'⟩:=uy (P:=P) (w:=w) hz hv bw.2 hr
 refine ⟨u,?_,hr'⟩
 have h1:=bw.1.1
 have h2:=bw.1.2
 simp [execOp,ho,Instr.index,run_underlying ht,e1,e2,asIntOf,h1,h2,di hi,hu]
theorem CK {kd:Bool}{s t:SV}{b:Bool}(h:yw kd s t=some b){p:Nat→Prop}{μ:Nat→Nm}{M:Mem}{u v:Value}(hu:Rp p μ M s u)(hv:Rp p μ M t v):CA kd u v=some b:=by
 unfold yw at h
 split at h
 ·rw [Rp.aS.1 hu,Rp.aS.1 hv];exact h
 ·rw [Rp.bI.1 hu,Rp.bI.1 hv];exact h
 ·cases h
theorem jL:∀ {ks:List Bool} {ss ts:List SV} {b:Bool},eZ ks ss ts=some b→∀ {p:Nat→Prop} {μ:Nat→Nm} {M:Mem} {us vs:List Value},aQ p μ M ss us→aQ p μ M ts vs→dO ks us vs=some b
 | [],[],[],b,h,_,_,_,us,vs,hu,hv=>by rw [aQ.aX.1 hu,aQ.aX.1 hv];exact h
 | [],[],_::_,_,h,_,_,_,_,_,_,_=>by simp [eZ] at h
 | [],_::_,_,_,h,_,_,_,_,_,_,_=>by simp [eZ] at h
 | _::_,[],_,_,h,_,_,_,_,_,_,_=>by simp [eZ] at h
 | _::_,_::_,[],_,h,_,_,_,_,_,_,_=>by simp [eZ] at h
 | kd::ks,s::ss,t::ts,b,h,p,μ,M,us,vs,hu,hv=>by
  simp only [eZ] at h
  split at h
  ·rename_i a b' h1 h2
   obtain ⟨u,us',rfl,hu1,hu2⟩:=aQ.aI.1 hu
   obtain ⟨v,vs',rfl,hv1,hv2⟩:=aQ.aI.1 hv
   simp only [dO,CK h1 hu1 hv1,jL h2 hu2 hv2]
   exact h
  ·cases h
theorem j9 {op:BinOp}(h:isEq op=true):op= .eql∨op= .neq:=by
 cases op <;> simp [isEq] at h <;> simp
theorem EG {op:BinOp}{t t':TypeId}{x y:Operand}{x' y':X}{ks:List Bool}(ho:o.op= .binOp op t x y t')(hop:isEq op=true)(ht:(∃ fs,P.underlying t=some (.struct fs))∨∃ n el,P.underlying t=some (.array n el))(hks:bu P 10000 t=some ks)
  (hg:P.eqGuardType P.depth t=false) (hx:cX x=some x') (hy:cX y=some y') (he:bW E H k own (.eqv (dA op) ks x' y')=some e):Sound P o E H k e:=by
 simp only [bW] at he
 split at he <;> first | (cases he;done) | skip
 rename_i s s' h1 h2
 split at he <;> first | (cases he;done) | skip
 rename_i b hb
 injection he with he
 subst he
 refine ⟨OT.pure fun p μ M a w hk hS=>⟨.bool (bif dA op then !b else b),?_,Rp.bI.2 rfl⟩,aU⟩
 obtain ⟨xs,e1,r1⟩:=Rp.c8.1 (hk.get (by simp [ho,Op.operands]) hx h1)
 obtain ⟨ys,e2,r2⟩:=Rp.c8.1 (hk.get (by simp [ho,Op.operands]) hy h2)
 have hc:=jL hb r1 r2
 have heq:=oQ (P:=P) (w:=w) 10000 t ks _ _ b hks hc
 have hty:∃ n,dh P t=some (some n):=by
  rcases iy hks with ⟨t1,_⟩ | t1
  ·exfalso
   obtain ⟨i,hi,_⟩:=j8 hks
   rcases ht with ⟨fs,ht⟩ | ⟨n,el,ht⟩ <;> simp [dh,ht,hi] at t1
  ·exact ⟨_,t1⟩
 obtain ⟨n,hty⟩:=hty
 simp only [valOf,hty] at heq
 have hgu:(eqGuard op t x y (.agg xs) (.agg ys)).run P w= .ok () w:=run_eqGuard_agg w op t x y xs ys hg
 rcases j9 hop with rfl | rfl <;> simp [execOp,ho,e1,e2,hgu,binOp,Op.equal,Op.maxDepth,heq,dA]
theorem GR {op:BinOp}{t t':TypeId}{x y:Operand}{x' y':X}(ho:o.op= .binOp op t x y t')(hop:isEq op=true)(ht:P.underlying t=some .bool)
  (hx:cX x=some x') (hy:cX y=some y') (he:bW E H k own (.fV (dA op) x' y')=some e):Sound P o E H k e:=by
 simp only [bW] at he
 split at he <;> first | (cases he;done) | skip
 rename_i s s' h1 h2
 injection he with he
 subst he
 refine ⟨OT.pure fun p μ M a w hk hS=>⟨.bool (bif dA op then !(s == s') else s == s'),?_,Rp.bI.2 rfl⟩,aU⟩
 have e1:=Rp.bI.1 (hk.get (by simp [ho,Op.operands]) hx h1)
 have e2:=Rp.bI.1 (hk.get (by simp [ho,Op.operands]) hy h2)
 have heq:=run_equalIn_bool (P:=P) w 9999 t s s' ht
 rcases j9 hop with rfl | rfl <;> simp [execOp,ho,e1,e2,eqGuard_at_bool,binOp,Op.equal,Op.maxDepth,heq,dA]
theorem CL {op:BinOp}{t t':TypeId}{x y:Operand}{x':X}{kd:Nat}(ho:o.op= .binOp op t x y t')(hop:isEq op=true)(hy:ux P t y=some kd)
  (hx:cX x=some x') (he:bW E H k own (.me (dA op) kd x')=some e) (bw:e.ob):Sound P o E H k e:=by
 have finF:∀ (F:Hp) (hF:∀ n ob,lk F n=some ob→H n=some ob) (b:Bool) (pp:Prop),(∀ (p:Nat→Prop) (μ:Nat→Nm) (M:Mem) (a:Act) (w:World),fL E o.op.operands p μ M a→bP p μ M (lk F) w→(∀ d,(Op.equalIn (d+1) t (a.eval x) (a.eval y)).run P w= .ok b w)∧
    (∀ kd n,a.eval x≠ .int kd n)∧(∀ q,a.eval x≠ .string q)∧(∀ q n,a.eval x≠ .float q n)∧(∀ q n m,a.eval x≠ .complex q n m)∧eqGuard op t x y (a.eval x) (a.eval y)=Pure.pure ())→
   Sound P o E H k ⟨.d (.bool (bif dA op then !b else b)),F,F,0,pp⟩:=by
  intro F hF b pp h
  refine ⟨OT.pure fun p μ M a w hk hS=>⟨.bool (bif dA op then !b else b),?_,Rp.bI.2 rfl⟩,hF⟩
  obtain ⟨h0,n1,n2,n3,n4,n5⟩:=h p μ M a w hk hS
  have h1:=h0 9999
  clear h0
  have hb:(binOp op t (a.eval x) (a.eval y)).run P w= .ok (.bool (bif dA op then !b else b)) w:=by
   generalize a.eval x=u at*
   generalize a.eval y=v at*
   rcases j9 hop with rfl | rfl <;> cases u <;> first
    | exact absurd rfl (n1 _ _)
    | exact absurd rfl (n2 _)
    | exact absurd rfl (n3 _ _)
    | exact absurd rfl (n4 _ _ _)
    | (cases v <;> simp [binOp,Op.equal,Op.maxDepth,h1,dA])
  simp only [execOp,ho,Sem.run_bind,n5,Sem.run_pure,Result.andThen_ok,hb]
 have fin:=finF [] aU
 unfold ux at hy
 simp only [bW] at he
 split at hy <;> first | (cases hy;done) | skip
 all_goals rename_i hty
 all_goals injection hy with hy
 all_goals subst hy
 all_goals split at he <;> first | (cases he;done) | skip
 all_goals first | contradiction | skip
 all_goals first | (rename_i hs;injection he with he;subst he) | skip
 ·have:=fin true True fun p μ M a w hk hS=>by
   have e1:a.eval x= .pointer none:=by simpa [bT] using Rp.cu.1 (hk.get (by simp [ho,Op.operands]) hx hs)
   refine ⟨fun d=>by rw [e1];simp [Act.eval,Op.equalIn,run_underlying hty],?_⟩
   rw [e1]
   simp [eqGuard_at_pointer]
  cases hn:dA op <;> simpa [hn] using this
 ·rename_i n off _
  have:=fin false True fun p μ M a w hk hS=>by
   have e1:a.eval x= .pointer (some ⟨(μ n).blk,off,none⟩):=(hk.get (by simp [ho,Op.operands]) hx hs).nZ
   refine ⟨fun d=>by rw [e1];simp [Act.eval,Op.equalIn,run_underlying hty],?_⟩
   rw [e1]
   simp [eqGuard_at_pointer]
  cases hn:dA op <;> simpa [hn] using this
 ·have:=fin false True fun p μ M a w hk hS=>by
   obtain ⟨b,q,e1⟩:∃ b q,a.eval x= .pointer (some ⟨b,q,none⟩):=by
    have:=(hk.get (by simp [ho,Op.operands]) hx hs).rep
    simp only [cG] at this
    obtain ⟨b,q,e1,_⟩:=this
    exact ⟨b,_,e1⟩
   refine ⟨fun d=>by rw [e1];simp [Act.eval,Op.equalIn,run_underlying hty],?_⟩
   rw [e1]
   simp [eqGuard_at_pointer]
  cases hn:dA op <;> simpa [hn] using this
 ·have:=fin true True fun p μ M a w hk hS=>by
   have e1:a.eval x= .map none:=by simpa [bT] using Rp.cu.1 (hk.get (by simp [ho,Op.operands]) hx hs)
   refine ⟨fun d=>by rw [e1];simp [Act.eval,Op.equalIn,run_underlying hty],?_⟩
   rw [e1]
   simp [eqGuard_at_map]
  cases hn:dA op <;> simpa [hn] using this
 ·rename_i n _ hs
  split at he <;> first | (cases he;done) | skip
  ·rename_i es c hH
   injection he with he
   subst he
   have:=finF [(n,.map es c)] (sub_one hH) false True fun p μ M a w hk hS=>by
    have hl:(μ n).live=true:=hS.one.2.1.1
    have e1:a.eval x= .map (some (μ n).blk):=by simpa [cG,hl] using (hk.get (by simp [ho,Op.operands]) hx hs).rep
    refine ⟨fun d=>by rw [e1];simp [Act.eval,Op.equalIn,run_underlying hty],?_⟩
    rw [e1]
    simp [eqGuard_at_map]
   cases hn:dA op <;> simpa [hn] using this
  ·rename_i hH
   injection he with he
   subst he
   have:=finF [(n,.eV)] (sub_one hH) true True fun p μ M a w hk hS=>by
    have hl:(μ n).live=false:=hS.one.2.1
    have e1:a.eval x= .map none:=by simpa [cG,hl] using (hk.get (by simp [ho,Op.operands]) hx hs).rep
    refine ⟨fun d=>by rw [e1];simp [Act.eval,Op.equalIn,run_underlying hty],?_⟩
    rw [e1]
    simp [eqGuard_at_map]
   cases hn:dA op <;> simpa [hn] using this
 ·have:=fin true True fun p μ M a w hk hS=>by
   have e1:a.eval x= .nilFunc:=by simpa [bT] using Rp.cu.1 (hk.get (by simp [ho,Op.operands]) hx hs)
   refine ⟨fun d=>by rw [e1];simp [Act.eval,Op.equalIn,run_underlying hty],?_⟩
   rw [e1]
   simp [eqGuard_at_nilFunc]
  cases hn:dA op <;> simpa [hn] using this
 ·have:=fin false True fun p μ M a w hk hS=>by
   obtain ⟨as,cs,e1,_⟩:=Rp.nU.1 (hk.get (by simp [ho,Op.operands]) hx hs)
   refine ⟨fun d=>by rw [e1];simp [Act.eval,Op.equalIn,run_underlying hty],?_⟩
   rw [e1]
   simp [eqGuard_at_func]
  cases hn:dA op <;> simpa [hn] using this
 ·have:=fin true True fun p μ M a w hk hS=>by
   have e1:a.eval x= .slice none 0 0:=by simpa [bT] using Rp.cu.1 (hk.get (by simp [ho,Op.operands]) hx hs)
   refine ⟨fun d=>by rw [e1];simp [Act.eval,Op.equalIn,run_underlying hty],?_⟩
   rw [e1]
   simp [eqGuard_at_slice]
  cases hn:dA op <;> simpa [hn] using this
 ·rename_i n len _
  have:=fin false (len≠0) fun p μ M a w hk hS=>by
   obtain ⟨_,e1⟩ | ⟨_,h,_⟩:=(hk.get (by simp [ho,Op.operands]) hx hs).ji
   rotate_left
   ·exact absurd h bw
   refine ⟨fun d=>by rw [e1];simp [Act.eval,Op.equalIn,run_underlying hty],?_⟩
   rw [e1]
   simp [eqGuard_at_slice]
  cases hn:dA op <;> simpa [hn] using this
end
end
section
section
variable {P:Program} {o:Oper} {E:Nat→Option SV} {H:Nat→Option Ob} {k:Nat} {own:Bool} {e:jH}
theorem sx (vs us:List Value)(o n:Nat)(h:o+us.length≤n)(hn:n≤vs.length):(l6 vs o us).take n=l6 (vs.take n) o us:=by
 have h0:o≤vs.length:=by omega
 unfold l6
 apply List.ext_getElem?
 intro i
 simp only [List.getElem?_take,List.getElem?_append,List.length_append,List.length_take,List.getElem?_drop,Nat.min_eq_left h0,Nat.min_eq_left (show o≤min n vs.length by omega)]
 by_cases h1:i<n
 ·simp only [h1,if_true]
  by_cases h2:i<o
  ·simp [h2,show i<o+us.length by omega]
  ·by_cases h3:i<o+us.length
   ·simp [h2,h3]
   ·simp [h3,show o+us.length+(i - (o+us.length))<n by omega]
 ·simp only [h1,if_false]
  simp [show ¬ i<o+us.length by omega,show ¬ o+us.length+(i - (o+us.length))<n by omega]
theorem mV {w:World}{t ty:TypeId}{i:TypeInfo}{b off:Nat}{vs:Array Value}{v:Value}(hi:P.info? t=some i)(hb:w.heap[b]? =some (.cells vs ty (0,0)))(hs:v.cells.size=i.size)
  (h1:∀ u∈v.cells.toList,u.oneCell'=true) (hl:off+i.size≤vs.size):
  ∃ w',(storeVar t ⟨b,off,none⟩ v).run P w= .ok () w'∧w'.heap[b]? =some (.cells (l6 vs.toList off v.cells.toList).toArray ty (0,0))∧(∀ c,c≠b→w'.heap[c]? =w.heap[c]?)∧
   w'.heap.size=w.heap.size∧w'.os=w.os∧Tape w w'∧w'.output=w.output:=by
 obtain ⟨w',hr,h2,h3⟩:=gm (P:=P) v.cells.toList vs w off 0 hb (by simp [hs];omega) h1
 refine ⟨w',?_,by simpa using h2,h3⟩
 simp [storeVar,di hi,hs,hr]
theorem CM {t:TypeId}{x v:Operand}{x' v':X}{i:TypeInfo}(ho:o.op= .store t x v)(hi:P.info? t=some i)(hx:cX x=some x')(hv:cX v=some v')
  (he:bW E H k own (.store i.size x' v')=some e) (bw:e.ob):Sound P o E H k e:=by
 simp only [bW] at he
 split at he <;> first | (cases he;done) | skip
 rename_i n off s h1 h2
 split at he <;> first | (cases he;done) | skip
 rename_i hone
 split at he <;> first | (cases he;done) | skip
 ·rename_i ty cs hH
  injection he with he
  subst he
  obtain ⟨hob1,hob2⟩:=bw
  refine ⟨OT.write fun p μ M a w hk hp bw=> ?_,sub_one hH⟩
  obtain ⟨h0,vs,hb,hr⟩:=bw
  have e1:=(hk.get (by simp [ho,Op.operands]) hx h1).nZ
  obtain ⟨c1,c2⟩:=Rp.cells hone (hk.get (by simp [ho,Op.operands]) hv h2)
  have hvs:vs.size=cs.length:=by simpa using hr.length
  have hsz:(a.eval v).cells.size=i.size:=by have:=c1.length;simp at this;omega
  obtain ⟨w',hr',q1,q2,q3,q4,q5,q6⟩:=mV (P:=P) (v:=a.eval v) hi hb hsz c2 (off:=off) (by omega)
  refine ⟨undef,w',.inr ⟨?_,rfl⟩,Rp.any,⟨h0,_,q1,?_⟩,fun b hb=>q2 b (hb h0),q3,q4,q5,q6⟩
  ·simp [execOp,ho,Instr.storeAt,e1,Instr.sureAddr,hr']
  ·simpa using aQ.bV hr c1 (by omega)
 ·rename_i el z l cs hH
  injection he with he
  subst he
  obtain ⟨hob1,hob2,hob3⟩:=bw
  refine ⟨OT.write fun p μ M a w hk hp bw=> ?_,sub_one hH⟩
  rcases bw with ⟨_,_,rfl⟩ | bw
  ·simp at hob2;omega
  obtain ⟨h0,vs,hb,nR,pR,hl3,hl4,hr⟩:=bw
  have e1:=(hk.get (by simp [ho,Op.operands]) hx h1).nZ
  obtain ⟨c1,c2⟩:=Rp.cells hone (hk.get (by simp [ho,Op.operands]) hv h2)
  have hle:l*z≤vs.size:=by rw [hl4];exact Nat.mul_le_mul_right z pR
  have hsz:(a.eval v).cells.size=i.size:=by have:=c1.length;simp at this;omega
  obtain ⟨w',hr',q1,q2,q3,q4,q5,q6⟩:=mV (P:=P) (v:=a.eval v) hi hb hsz c2 (off:=off) (by omega)
  refine ⟨undef,w',.inr ⟨?_,rfl⟩,Rp.any,.inr ⟨h0,_,q1,?_,pR,hl3,?_,?_⟩,fun b hb=>q2 b (hb h0),q3,q4,q5,q6⟩
  ·simp [execOp,ho,Instr.storeAt,e1,Instr.sureAddr,hr']
  ·rw [tA (by omega)]
   simp
   omega
  ·simp [l6]
   omega
  ·have hcl:(a.eval v).cells.toList.length=i.size:=by simpa using hsz
   have:=aQ.bV (o:=off) hr c1 (by omega)
   rw [← sx _ _ _ _ (by omega) (by simpa using hle)] at this
   simpa using this
theorem v_ (us:List Value):∀ (j off:Nat) (vs:Array Value),off+j+us.length≤vs.size→((us.zipIdx j).foldl (fun cs (x:Value×Nat)=>cs.setIfInBounds (off+x.2) x.1) vs).toList=l6 vs.toList (off+j) us:=by
 induction us with
 | nil=>intro j off vs _;simp [l6]
 | cons u us ih=>
  intro j off vs h
  simp only [List.length_cons] at h
  simp only [List.zipIdx_cons,List.foldl_cons]
  rw [ih (j+1) off _ (by simp;omega),Array.toList_setIfInBounds,show off+(j+1)=off+j+1 by omega]
  exact nY vs.toList (off+j) u us (by simp;omega)
theorem mW (pl:Nat→Option (Nat×Nat)){p:Nat→Prop}{μ:Nat→Nm}{M:Mem}{a:Act}{xs:Array Operand}(hk:fL E xs p μ M a):∀ (parts:List (Nat×Operand)) (qs:List (Nat×Nat×X)) (ps:List (Nat×Nat×SV)) (cells cs:List SV) (ob:Prop) (vs:Array Value),
  jE pl parts=some qs→gM E qs=some ps→c9 cells ps=some (cs,ob)→ob→(∀ x∈parts,x.2∈xs)→aQ p μ M cells vs.toList→
  ∃ vs':Array Value,Instr.fill pl vs (parts.map fun (i,x)=>(i,a.eval x))=some vs'∧aQ p μ M cs vs'.toList
 | [],qs,ps,cells,cs,ob,vs,h1,h2,h3,bw,_,hr=>by
  simp [jE] at h1;subst h1
  simp [gM] at h2;subst h2
  simp [c9] at h3;obtain ⟨rfl,_⟩:=h3
  exact ⟨vs,rfl,hr⟩
 | (i,x)::parts,qs,ps,cells,cs,ob,vs,h1,h2,h3,bw,hin,hr=>by
  simp only [jE] at h1
  split at h1 <;> first | (cases h1;done) | skip
  rename_i off n y qs' hpl hy hqs
  injection h1 with h1;subst h1
  simp only [gM] at h2
  split at h2 <;> first | (cases h2;done) | skip
  rename_i s ss hs hss
  injection h2 with h2;subst h2
  simp only [c9] at h3
  split at h3 <;> first | (cases h3;done) | skip
  rename_i hone
  split at h3 <;> first | (cases h3;done) | skip
  rename_i cs' iJ hb
  injection h3 with h3
  injection h3 with h3 h3'
  subst h3;subst h3'
  obtain ⟨hob1,hob2,hob3⟩:=bw
  obtain ⟨c1,c2⟩:=Rp.cells hone (hk.get (hin (i,x) (by simp)) hy hs)
  have hvl:=hr.length
  have hcl:=c1.length
  simp only [Array.length_toList] at hvl hcl
  have hsp:=aQ.bV (o:=off) hr c1 (by omega)
  have hf:=v_ (a.eval x).cells.toList 0 off vs (by simp;omega)
  simp only [Nat.add_zero] at hf
  rw [← hf] at hsp
  obtain ⟨vs',r1,r2⟩:=mW pl hk parts qs' ss _ _ iJ _ hqs hss hb hob3 (fun y hy=>hin y (by simp [hy])) hsp
  refine ⟨vs',?_,r2⟩
  simp only [List.map_cons,Instr.fill,hpl]
  rw [if_neg (by simp;omega)]
  rw [← Array.foldl_toList,Array.toList_zipIdx]
  exact r1
theorem run_places {w:World}:∀ (fs:List Field),(fs.all fun f=>(P.info? f.type).isSome)=true→
  (fs.mapM (m:=Sem) fun f=>do pure (f.offset,← sizeOf f.type)).run P w= .ok (fs.map fun f=>(f.offset,P.cellsOf f.type)) w
 | [],_=>by simp
 | f::fs,h=>by
  simp only [List.all_cons,Bool.and_eq_true] at h
  obtain ⟨i,hi⟩:=Option.isSome_iff_exists.1 h.1
  have ih:=run_places (w:=w) fs h.2
  simp only [List.mapM_cons,Sem.run_bind,di hi,Result.andThen_ok,Sem.run_pure,ih,List.map_cons,Program.cellsOf,hi,Option.map_some,Option.getD_some]
theorem we {pl HU:Nat→Option (Nat×Nat)}:∀ (parts:List (Nat×Value)) (vs:Array Value),(∀ i,pl i=HU i)→Instr.fill pl vs parts=Instr.fill HU vs parts
 | parts,vs,h=>by rw [show pl=HU from funext h]
theorem Fc {t:TypeId}{parts:Array (Nat×Operand)}{fs:Array Field}{z:List SV}{qs:List (Nat×Nat×X)}(ho:o.op= .build t parts)(ht:P.underlying t=some (.struct fs))(hz:eS P t=some z)
  (Fe:fs.all (fun f=>(P.info? f.type).isSome)=true) (hq:jE (mU P fs) parts.toList=some qs) (he:bW E H k own (.ec z qs)=some e) (bw:e.ob):Sound P o E H k e:=by
 simp only [bW] at he
 split at he <;> first | (cases he;done) | skip
 rename_i ps hps
 split at he <;> first | (cases he;done) | skip
 rename_i cs ob hb
 injection he with he
 subst he
 refine ⟨OT.pure fun p μ M a w hk hS=> ?_,aU⟩
 obtain ⟨v,hv,hr,_⟩:=fh hz (p:=p) (μ:=μ) (M:=M)
 obtain ⟨vs',r1,r2⟩:=mW (mU P fs) hk parts.toList qs ps z cs ob v.cells hq hps hb bw (fun x hx=>by
  rw [ho];simp only [Op.operands,List.mem_toArray,List.mem_map];exact ⟨x,by simpa using hx,rfl⟩) hr
 refine ⟨.agg vs',?_,Rp.c8.2 ⟨_,rfl,r2⟩⟩
 have hpl:(fs.mapM (m:=Sem) fun f=>do pure (f.offset,← sizeOf f.type)).run P w= .ok (fs.map fun f=>(f.offset,P.cellsOf f.type)) w:=by
  rw [← Array.toArray_toList (xs:=fs),List.mapM_toArray]
  rw [Sem.run_map,run_places fs.toList (by simpa using Fe)]
  simp only [Result.andThen_ok]
  congr 1
  apply Array.ext'
  simp
 have hpe:∀ i,(fs.map fun f=>(f.offset,P.cellsOf f.type))[i]? =mU P fs i:=by
  intro i
  unfold mU
  rw [Array.getElem?_map]
  cases hi:fs[i]? with
  | none=>rfl
  | some f=>
   have hf:(P.info? f.type).isSome=true:=by
    have:=Array.all_eq_true_iff_forall_mem.1 Fe f (Array.mem_of_getElem? hi)
    exact this
   obtain ⟨j,hj⟩:=Option.isSome_iff_exists.1 hf
   simp [hj,Program.cellsOf]
 have hfill:Instr.fill ((fs.map fun f=>(f.offset,P.cellsOf f.type))[·]?) v.cells (parts.map fun (i,x)=>(i,a.eval x)).toList=some vs':=by
  rw [we _ _ hpe]
  simpa using r1
 simp only [execOp,ho,Instr.build,Sem.run_bind,hv w,Result.andThen_ok,run_underlying ht,hpl,hfill,Sem.run_pure]
theorem Ff {t el:TypeId}{n:Nat}{parts:Array (Nat×Operand)}{ti:TypeInfo}{z:List SV}{qs:List (Nat×Nat×X)}(ho:o.op= .build t parts)(ht:P.underlying t=some (.array n el))(hz:eS P t=some z)
  (hi:P.info? el=some ti) (hq:jE (fun i=>some (i*ti.size,ti.size)) parts.toList=some qs) (he:bW E H k own (.ec z qs)=some e) (bw:e.ob):Sound P o E H k e:=by
 simp only [bW] at he
 split at he <;> first | (cases he;done) | skip
 rename_i ps hps
 split at he <;> first | (cases he;done) | skip
 rename_i cs ob hb
 injection he with he
 subst he
 refine ⟨OT.pure fun p μ M a w hk hS=> ?_,aU⟩
 obtain ⟨v,hv,hr,_⟩:=fh hz (p:=p) (μ:=μ) (M:=M)
 obtain ⟨vs',r1,r2⟩:=mW _ hk parts.toList qs ps z cs ob v.cells hq hps hb bw (fun x hx=>by
  rw [ho];simp only [Op.operands,List.mem_toArray,List.mem_map];exact ⟨x,by simpa using hx,rfl⟩) hr
 refine ⟨.agg vs',?_,Rp.c8.2 ⟨_,rfl,r2⟩⟩
 have hfill:Instr.fill (fun i=>some (i*ti.size,ti.size)) v.cells (parts.map fun (i,x)=>(i,a.eval x)).toList=some vs':=by simpa using r1
 simp only [execOp,ho,Instr.build,Sem.run_bind,hv w,Result.andThen_ok,run_underlying ht,di hi,hfill,Sem.run_pure]
end
end
end Go.Sl
