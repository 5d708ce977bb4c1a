/-
  What an operation gives (shadow), read off the program's own operation; and that the machine does so: all but append, maps, calls.
-/
import Derived.Test.YtgjgfamgbhlmfaaU1
set_option linter.unusedSimpArgs false
set_option linter.unusedSectionVars false
set_option linter.unusedVariables false
namespace Go.Sl
open Go.RowKit

def cqS : Bool → SV → SV → Option Bool
  | true, .d (.int k a), .d (.int k' b) => if k = k' then some (a == b) else none
  | false, .d (.bool a), .d (.bool b) => some (a == b)
  | _, _, _ => none
def csqS : List Bool → List SV → List SV → Option Bool
  | [], [], [] => some true
  | k :: ks, x :: xs, y :: ys => match cqS k x y, csqS ks xs ys with
    | some a, some b => some (a && b)
    | _, _ => none
  | _, _, _ => none

/-- Whole-number operations. -/
def binV (op : BinOp) (k : IntKind) (a b : Int) : Option (SV × Prop) :=
  match op with
  | .add => some (.d (.int k (k.wrap (a + b))), True)
  | .sub => some (.d (.int k (k.wrap (a - b))), True)
  | .mul => some (.d (.int k (k.wrap (a * b))), True)
  | .quo => some (.d (.int k (k.wrap (a.tdiv b))), b ≠ 0)
  | .rem => some (.d (.int k (a.tmod b)), b ≠ 0)
  | .and => some (.d (.int k (bits .and k a b)), True)
  | .or => some (.d (.int k (bits .or k a b)), True)
  | .xor => some (.d (.int k (bits .xor k a b)), True)
  | .andNot => some (.d (.int k (bits .andNot k a b)), True)
  | .shl => some (.d (.int k (k.wrap (a * 2 ^ b.toNat))), 0 ≤ b ∧ b ≤ k.bits)
  | .shr => some (.d (.int k (a / 2 ^ b.toNat)), 0 ≤ b ∧ b ≤ k.bits)
  | .eql => some (.d (.bool (a == b)), True)
  | .neq => some (.d (.bool (a != b)), True)
  | .lss => some (.d (.bool (decide (a < b))), True)
  | .leq => some (.d (.bool (decide (a ≤ b))), True)
  | .gtr => some (.d (.bool (decide (a > b))), True)
  | .geq => some (.d (.bool (decide (a ≥ b))), True)
def binK (op : BinOp) (k k' : IntKind) : Bool := k == k' || op matches .shl || op matches .shr

def bldS (cells : List SV) : List (Nat × Nat × SV) → Option (List SV × Prop)
  | [] => some (cells, True)
  | (off, n, s) :: r => if s.cells.all SV.isOne then match bldS (spl cells off s.cells) r with
      | some (cs, ob) => some (cs, s.cells.length = n ∧ off + n ≤ cells.length ∧ ob)
      | none => none
    else none
def evp (E : Nat → Option SV) : List (Nat × Nat × X) → Option (List (Nat × Nat × SV))
  | [] => some []
  | (o, n, x) :: r => match ev E x, evp E r with
    | some s, some ss => some ((o, n, s) :: ss)
    | _, _ => none

def datas : List SV → Option (List DV)
  | [] => some []
  | .d x :: r => match datas r with
    | some xs => some (x :: xs)
    | none => none
  | _ :: _ => none

/-- A pointer moved on. -/
def mvp (n : Nat) : SV → Option SV
  | .ptr m o => some (.ptr m (o + n))
  | .vp cs i => some (.vp cs (i + n))
  | _ => none

/-- The row that an append goes to: how long it is, its cells, the object; what must be so. -/
def appB (H : Nat → Option Ob) (e sz : Nat) : Option SV → Option (Nat × List SV × Hp × (Nat → Prop))
  | some (.d .nils) => some (0, [], [], fun _ => True)
  | some (.gs n len) => match H n with
    | some (.arr e' sz' len' cs) => some (len, cs, [(n, .arr e' sz' len' cs)], fun _ => e' = e ∧ sz' = sz ∧ len' = len)
    | _ => none
  | _ => none
/-- What an append appends. -/
def appX (H : Nat → Option Ob) : Option SV → Option (Nat × List SV × Hp × Prop)
  | some (.d .nils) => some (0, [], [], True)
  | some (.d (.sl m xs)) => some (m, xs.map .d, [], True)
  | some (.gs n m) => match H n with
    | some (.arr e' sz' len' cs) => some (m, cs, [(n, .arr e' sz' len' cs)], len' = m)
    | _ => none
  | _ => none

def isAggS : SV → Bool
  | .agg _ => true
  | _ => false
def keyOk (ks : List Bool) (agg : Bool) (key : SV) : Bool := isAggS key == agg && (csqS ks key.cells key.cells).isSome
/-- Where a key stands among a map's entries. -/
def findS (ks : List Bool) (agg : Bool) (key : SV) : List (Nat × SV × SV) → Nat → Option (Option Nat)
  | [], _ => some none
  | e :: r, i => if keyOk ks agg e.2.1 then match csqS ks key.cells e.2.1.cells with
      | some true => some (some i)
      | some false => findS ks agg key r (i + 1)
      | none => none
    else none
def msetS (es : List (Nat × SV × SV)) (c : Nat) (key v : SV) : Option Nat → Ob
  | some i => .map (es.modify i fun e => (e.1, e.2.1, v)) c
  | none => .map (es ++ [(c, key, v)]) (c + 1)
def mdelS (es : List (Nat × SV × SV)) (c : Nat) : Option Nat → Ob
  | some i => .map (es.eraseIdx i) c
  | none => .map es c
/-- The entry's stamp; the map, with an entry of the key. -/
def mentT (es : List (Nat × SV × SV)) (c : Nat) : Option Nat → Nat
  | some i => match es[i]? with
    | some e => e.1
    | none => 0
  | none => c
def mentO (es : List (Nat × SV × SV)) (c : Nat) (key z : SV) : Option Nat → Ob
  | some _ => .map es c
  | none => .map (es ++ [(c, key, z)]) (c + 1)
def lookS (es : List (Nat × SV × SV)) (z : SV) : Option Nat → SV
  | some i => match es[i]? with
    | some e => e.2.2
    | none => z
  | none => z
def lookOk (ok : Bool) (v : SV) (b : Bool) : SV := if ok then .tup [v, .d (.bool b)] else v

def sop (E : Nat → Option SV) (H : Nat → Option Ob) (k : Nat) (own : Bool) : SO → Option Eff
  | .mv x => match ev E x with
    | some s => some ⟨s, [], [], 0, True⟩
    | none => none
  | .pick c a b => match ev E c with
    | some (.d (.bool true)) => match ev E a with
      | some s => some ⟨s, [], [], 0, True⟩
      | none => none
    | some (.d (.bool false)) => match ev E b with
      | some s => some ⟨s, [], [], 0, True⟩
      | none => none
    | _ => none
  | .alloc t z => some ⟨.ptr k 0, [], [(k, .box t z)], 1, True⟩
  | .box t x => match ev E x with
    | some s => if s.cells.all SV.isOne then some ⟨.ptr k 0, [], [(k, .box t s.cells)], 1, True⟩ else none
    | none => none
  | .load sz x => match ev E x with
    | some s => match cellsAt H s with
      | some (cs, off, F) => match ldv cs off sz with
        | some v => some ⟨v, F, F, 0, ldo cs off sz⟩
        | none => none
      | none => none
    | none => none
  | .store sz x v => match ev E x, ev E v with
    | some (.ptr n off), some s => if s.cells.all SV.isOne then match H n with
        | some (.box t cs) => some ⟨.any, [(n, .box t cs)], [(n, .box t (spl cs off s.cells))], 0, s.cells.length = sz ∧ off + sz ≤ cs.length⟩
        | some (.arr e z l cs) => some ⟨.any, [(n, .arr e z l cs)], [(n, .arr e z l (spl cs off s.cells))], 0, s.cells.length = sz ∧ off + sz ≤ cs.length ∧ 0 < sz⟩
        | _ => none
      else none
    | _, _ => none
  | .fld off x => match ev E x with
    | some s => match mvp off s with
      | some v => some ⟨v, [], [], 0, True⟩
      | none => none
    | none => none
  | .idxA len sz x i => match ev E x, ev E i with
    | some s, some (.d (.int _ m)) => match mvp (m.toNat * sz) s with
      | some v => some ⟨v, [], [], 0, 0 ≤ m ∧ m < (len : Int)⟩
      | none => none
    | _, _ => none
  | .idxS sz x i => match ev E x, ev E i with
    | some (.d (.sl n cs)), some (.d (.int _ m)) => some ⟨.vp cs (m.toNat * sz), [], [], 0, 0 ≤ m ∧ m < (n : Int)⟩
    | some (.gs n len), some (.d (.int _ m)) => some ⟨.ptr n (m.toNat * sz), [], [], 0, 0 ≤ m ∧ m < (len : Int)⟩
    | some (.bs n off len), some (.d (.int _ m)) => some ⟨.ptr n (off + m.toNat * sz), [], [], 0, 0 ≤ m ∧ m < (len : Int)⟩
    | _, _ => none
  | .field off sz x => match ev E x with
    | some (.agg cs) => match ldv cs off sz with
      | some v => some ⟨v, [], [], 0, ldo cs off sz⟩
      | none => none
    | _ => none
  | .index len sz agg x i => match ev E x, ev E i with
    | some (.agg cs), some (.d (.int _ m)) => match ldv cs (m.toNat * sz) (if agg then some sz else none) with
      | some v => some ⟨v, [], [], 0, (0 ≤ m ∧ m < (len : Int)) ∧ ldo cs (m.toNat * sz) (if agg then some sz else none)⟩
      | none => none
    | _, _ => none
  | .bin op x y => match ev E x, ev E y with
    | some (.d (.int k a)), some (.d (.int k' b)) => if binK op k k' then match binV op k a b with
        | some (v, ob) => some ⟨v, [], [], 0, ob⟩
        | none => none
      else none
    | _, _ => none
  | .eqv neg ks x y => match ev E x, ev E y with
    | some (.agg s), some (.agg s') => match csqS ks s s' with
      | some b => some ⟨.d (.bool (bif neg then !b else b)), [], [], 0, True⟩
      | none => none
    | _, _ => none
  | .eqb neg x y => match ev E x, ev E y with
    | some (.d (.bool s)), some (.d (.bool s')) => some ⟨.d (.bool (bif neg then !(s == s') else s == s')), [], [], 0, True⟩
    | _, _ => none
  | .eqnil neg kd x => match kd, ev E x with
    | 0, some (.d .nilp) | 1, some (.d .nilm) | 2, some (.d .nilf) | 3, some (.d .nils) => some ⟨.d (.bool !neg), [], [], 0, True⟩
    | 0, some (.ptr _ _) | 2, some (.fn _ _ _) => some ⟨.d (.bool neg), [], [], 0, True⟩
    | 1, some (.mp n) => match H n with
      | some (.map es c) => some ⟨.d (.bool neg), [(n, .map es c)], [(n, .map es c)], 0, True⟩
      | some .nomap => some ⟨.d (.bool !neg), [(n, .nomap)], [(n, .nomap)], 0, True⟩
      | _ => none
    | 0, some (.vp _ _) => some ⟨.d (.bool neg), [], [], 0, True⟩
    | 3, some (.gs _ n) => some ⟨.d (.bool neg), [], [], 0, n ≠ 0⟩
    | _, _ => none
  | .not x => match ev E x with
    | some (.d (.bool b)) => some ⟨.d (.bool !b), [], [], 0, True⟩
    | _ => none
  | .conv k x => match ev E x with
    | some (.d (.int _ n)) => some ⟨.d (.int k (k.wrap n)), [], [], 0, True⟩
    | _ => none
  | .ext i x => match ev E x with
    | some (.tup cs) => match cs[i]? with
      | some v => some ⟨v, [], [], 0, True⟩
      | none => none
    | _ => none
  | .nilc x => match ev E x with
    | some (.ptr n o) => some ⟨.ptr n o, [], [], 0, True⟩
    | some (.vp cs i) => some ⟨.vp cs i, [], [], 0, True⟩
    | _ => none
  | .bld z parts => match evp E parts with
    | some ps => match bldS z ps with
      | some (cs, ob) => some ⟨.agg cs, [], [], 0, ob⟩
      | none => none
    | none => none
  | .bsl e sz len z parts => match evp E parts with
    | some ps => match bldS z ps with
      | some (cs, ob) => if cs.all SV.isOne then
          if own || len == 0 then some ⟨.gs k len, [], [(k, .arr e sz len cs)], 1, ob⟩
          else match datas cs with
            | some ds => some ⟨.d (.sl len ds), [], [], 0, ob⟩
            | none => some ⟨.gs k len, [], [(k, .arr e sz len cs)], 1, ob⟩
        else none
      | none => none
    | none => none
  | .slc sz x lo hi => match ev E x with
    | some (.d (.sl n cs)) => match (match lo with | some l => ev E l | none => some (.d (.int .i64 0))), (match hi with | some h => ev E h | none => some (.d (.int .i64 n))) with
      | some (.d (.int _ l)), some (.d (.int _ h)) => some ⟨.d (.sl (h.toNat - l.toNat) ((cs.drop (l.toNat * sz)).take ((h.toNat - l.toNat) * sz))), [], [], 0, 0 ≤ l ∧ l ≤ h ∧ h ≤ (n : Int) ∧ cs.length = n * sz⟩
      | _, _ => none
    | some (.d .nils) => match (match lo with | some l => ev E l | none => some (.d (.int .i64 0))), (match hi with | some h => ev E h | none => some (.d (.int .i64 0))) with
      | some (.d (.int _ l)), some (.d (.int _ h)) => some ⟨.d .nils, [], [], 0, l = 0 ∧ h = 0⟩
      | _, _ => none
    | some (.gs n len) => match H n with
      | some (.arr e z len' cs) => match lo, (match hi with | some h => ev E h | none => some (.d (.int .i64 len))) with
        | none, some (.d (.int _ h)) => some ⟨.gs n h.toNat, [(n, .arr e z len' cs)], [(n, .arr e z len' cs)], 0, 0 ≤ h ∧ h ≤ (len : Int) ∧ len' = len⟩
        | some l, some (.d (.int _ h)) => match ev E l with
          | some (.d (.int _ l)) => some ⟨.bs n (l.toNat * sz) (h.toNat - l.toNat), [(n, .arr e z len' cs)], [(n, .arr e z len' cs)], 0, 0 ≤ l ∧ l < h ∧ h ≤ (len : Int) ∧ len' = len⟩
          | _ => none
        | _, _ => none
      | _ => none
    | _ => none
  | .slcA n sz x lo hi => match ev E x, (match lo with | some l => ev E l | none => some (.d (.int .i64 0))), (match hi with | some h => ev E h | none => some (.d (.int .i64 n))) with
    | some (.ptr m off), some (.d (.int _ l)), some (.d (.int _ h)) => some ⟨.bs m (off + l.toNat * sz) (h.toNat - l.toNat), [], [], 0, 0 ≤ l ∧ l ≤ h ∧ h ≤ (n : Int)⟩
    | _, _, _ => none
  | .slc3 x h m => match ev E x, ev E h, ev E m with
    | some (.d (.sl n cs)), some (.d (.int _ h)), some (.d (.int _ m)) => some ⟨.d (.sl n cs), [], [], 0, h = (n : Int) ∧ m = (n : Int)⟩
    | some (.d .nils), some (.d (.int _ h)), some (.d (.int _ m)) => some ⟨.d .nils, [], [], 0, h = 0 ∧ m = 0⟩
    | _, _, _ => none
  | .lens x => match ev E x with
    | some (.d (.str s)) => some ⟨.d (.int .i64 s.length), [], [], 0, True⟩
    | _ => none
  | .idxT x i => match ev E x, ev E i with
    | some (.d (.str s)), some (.d (.int _ n)) => some ⟨.d (.int .u8 ((s.getD n.toNat 0 : Nat) : Int)), [], [], 0, 0 ≤ n ∧ n < (s.length : Int)⟩
    | _, _ => none
  | .neg x => match ev E x with
    | some (.d (.int k n)) => some ⟨.d (.int k (k.wrap (-n))), [], [], 0, True⟩
    | _ => none
  | .len x => match ev E x with
    | some (.d (.sl n _)) => some ⟨.d (.int .i64 n), [], [], 0, True⟩
    | some (.d .nils) => some ⟨.d (.int .i64 0), [], [], 0, True⟩
    | some (.gs _ n) => some ⟨.d (.int .i64 n), [], [], 0, True⟩
    | some (.bs _ _ n) => some ⟨.d (.int .i64 n), [], [], 0, True⟩
    | _ => none
  | .mlen x => match ev E x with
    | some (.d .nilm) => some ⟨.d (.int .i64 0), [], [], 0, True⟩
    | some (.mp n) => match H n with
      | some (.map es c) => some ⟨.d (.int .i64 es.length), [(n, .map es c)], [(n, .map es c)], 0, True⟩
      | some .nomap => some ⟨.d (.int .i64 0), [(n, .nomap)], [(n, .nomap)], 0, True⟩
      | _ => none
    | _ => none
  | .look ks agg z m i ok => match ev E m, ev E i with
    | some (.d .nilm), some key => if keyOk ks agg key then some ⟨lookOk ok z false, [], [], 0, True⟩ else none
    | some (.mp n), some key => match H n with
      | some (.map es c) => if keyOk ks agg key then match findS ks agg key es 0 with
          | some r => some ⟨lookOk ok (lookS es z r) r.isSome, [(n, .map es c)], [(n, .map es c)], 0, True⟩
          | none => none
        else none
      | some .nomap => if keyOk ks agg key then some ⟨lookOk ok z false, [(n, .nomap)], [(n, .nomap)], 0, True⟩ else none
      | _ => none
    | _, _ => none
  | .mset ks agg m i v => match ev E m, ev E i, ev E v with
    | some (.mp n), some key, some s => match H n with
      | some (.map es c) => if keyOk ks agg key then match findS ks agg key es 0 with
          | some r => some ⟨.any, [(n, .map es c)], [(n, msetS es c key s r)], 0, True⟩
          | none => none
        else none
      | _ => none
    | _, _, _ => none
  | .mentr ks agg z m i => match ev E m, ev E i with
    | some (.mp n), some key => match H n with
      | some (.map es c) => if keyOk ks agg key then match findS ks agg key es 0 with
          | some r => some ⟨.tup [lookS es z r, .d (.int .i64 (mentT es c r))], [(n, .map es c)], [(n, mentO es c key z r)], 0, True⟩
          | none => none
        else none
      | _ => none
    | _, _ => none
  | .mstor m s x => match ev E m, ev E s, ev E x with
    | some (.mp n), some (.d (.int _ b)), some v => match H n with
      | some (.map es c) => match es.findIdx? (fun e => (e.1 : Int) == b) with
        | some j => some ⟨.any, [(n, .map es c)], [(n, .map (es.modify j fun e => (e.1, e.2.1, v)) c)], 0, True⟩
        | none => none
      | _ => none
    | _, _, _ => none
  | .clr sz z x => match ev E x with
    | some (.bs n off len) => match H n with
      | some (.arr e z' l cs) => some ⟨.any, [(n, .arr e z' l cs)], [(n, .arr e z' l (spl cs off ((List.replicate len z).flatten)))], 0, 0 < len ∧ off + len * sz ≤ cs.length⟩
      | _ => none
    | _ => none
  | .mdel ks agg m i => match ev E m, ev E i with
    | some (.d .nilm), some key => if keyOk ks agg key then some ⟨.any, [], [], 0, True⟩ else none
    | some (.mp n), some key => match H n with
      | some (.map es c) => if keyOk ks agg key then match findS ks agg key es 0 with
          | some r => some ⟨.any, [(n, .map es c)], [(n, mdelS es c r)], 0, True⟩
          | none => none
        else none
      | some .nomap => if keyOk ks agg key then some ⟨.any, [(n, .nomap)], [(n, .nomap)], 0, True⟩ else none
      | _ => none
    | _, _ => none
  | .mrange m => match ev E m with
    | some (.d .nilm) => some ⟨.it k, [], [(k, .iter none 0 [] 0)], 1, True⟩
    | some (.mp n) => match H n with
      | some (.map es c) => some ⟨.it k, [(n, .map es c)], [(n, .map es c), (k, .iter (some n) c [] c)], 1, True⟩
      | some .nomap => some ⟨.it k, [(n, .nomap)], [(n, .nomap), (k, .iter none 0 [] 0)], 1, True⟩
      | _ => none
    | _ => none
  | .mentry x => match ev E x with
    | some (.it n) => match H n with
      | some (.iter (some m) since seen st) => match H m with
        | some (.map es c) => match seen.getLast? with
          | some stamp => match es.find? (fun e => e.1 == stamp) with
            | some e => some ⟨.tup [e.2.1, e.2.2], [(n, .iter (some m) since seen st), (m, .map es c)], [(n, .iter (some m) since seen st), (m, .map es c)], 0, c = st ∧ n ≠ m⟩
            | none => none
          | none => none
        | _ => none
      | _ => none
    | _ => none
  | .mx x y => match ev E x, ev E y with
    | some (.d (.int k a)), some (.d (.int _ b)) => some ⟨.d (.int k (if b > a then b else a)), [], [], 0, True⟩
    | _, _ => none
  | .mn x y => match ev E x, ev E y with
    | some (.d (.int k a)), some (.d (.int _ b)) => some ⟨.d (.int k (if b < a then b else a)), [], [], 0, True⟩
    | _, _ => none
  | .mkf f first cap => match evs E first, evs E cap with
    | some a, some c => some ⟨.fn f a c, [], [], 0, True⟩
    | _, _ => none
  | .mkm => some ⟨.mp k, [], [(k, .map [] 0)], 1, True⟩
  | .copy e sz d x => match ev E d, ev E x with
    | some (.bs n off len), some (.bs m off' len') => match H n, H m with
      | some (.box t cs), some (.box t' cs') => if cs'.all SV.isOne then some ⟨.d (.int .i64 len), [(n, .box t cs), (m, .box t' cs')], [(n, .box t (spl cs off ((cs'.drop off').take (len * sz)))), (m, .box t' cs')], 0, n ≠ m ∧ 0 < len ∧ off + len * sz ≤ cs.length ∧ off' + len * sz ≤ cs'.length ∧ len = len'⟩ else none
      | _, _ => none
    | _, _ => none
  | .app e sz bytes s x => match appB H e sz (ev E s), appX H (ev E x) with
    | some (n, cs, F, ob), some (m, news, F2, ob2) =>
      if news.all SV.isOne then some ⟨.gs k (n + m), F ++ F2, (k, .arr e sz (n + m) (cs ++ news)) :: F2, 1, ob m ∧ ob2 ∧ n + m ≤ 9223372036854775807 ∧ (n + m) * bytes ≤ 140737488355328 ∧ news.length = m * sz ∧ ((F.map (·.1)).all fun a => (F2.map (·.1)).all fun b => a != b) = true⟩
      else none
    | _, _ => none
  | .mks e sz bytes z len cap => match ev E len, ev E cap with
    | some (.d (.int _ l)), some (.d (.int _ c)) => some ⟨.gs k l.toNat, [], [(k, .arr e sz l.toNat ((List.replicate l.toNat z).flatten))], 1, 0 ≤ l ∧ l ≤ c ∧ c ≤ 9223372036854775807 ∧ bytes * c ≤ 281474976710656⟩
    | _, _ => none
  | _ => none

def cNat2 (P : Program) (t : TypeId) : Option (Nat × TypeId) := match P.underlying t with
  | some (.slice e) => match P.info? e with
    | some i => some (i.size, e)
    | none => none
  | _ => none

def cParts (pl : Nat → Option (Nat × Nat)) : List (Nat × Operand) → Option (List (Nat × Nat × X))
  | [] => some []
  | (i, o) :: r => match pl i, cX o, cParts pl r with
    | some (off, n), some x, some r' => some ((off, n, x) :: r')
    | _, _, _ => none
def fieldPl (P : Program) (fs : Array Field) (i : Nat) : Option (Nat × Nat) := match fs[i]? with
  | some f => match P.info? f.type with
    | some j => some (f.offset, j.size)
    | none => none
  | none => none
def cMaybe : Option Operand → Option (Option X)
  | none => some none
  | some o => (cX o).map some
def szFits (sz : Option Nat) (n : Nat) : Bool := match sz with
  | none => true
  | some m => m == n
def isEq : BinOp → Bool
  | .eql | .neq => true
  | _ => false
def isNeq : BinOp → Bool
  | .neq => true
  | _ => false
def nilKd (P : Program) (t : TypeId) (y : Operand) : Option Nat := match P.underlying t, y with
  | some (.pointer _), .const (.pointer none) => some 0
  | some (.map _ _), .const (.map none) => some 1
  | some (.func _ _ _), .const .nilFunc => some 2
  | some (.slice _), .const (.slice none 0 0) => some 3
  | _, _ => none

def cZero (P : Program) (t : TypeId) : Option SV := match P.info? t with
  | some i => match i.zero with
    | some z => cV z
    | none => none
  | none => none
def aggOf (P : Program) (t : TypeId) : Bool := match tySz P t with
  | some (some _) => true
  | _ => false
/-- An operation of the program in the small form. -/
def cO (P : Program) : Op → Option SO
  | .move x | .assign x => (cX x).map .mv
  | .pick c a b => match cX c, cX a, cX b with
    | some c, some a, some b => some (.pick c a b)
    | _, _, _ => none
  | .alloc t => (zCells P t).map (.alloc t)
  | .box t x => (cX x).map (.box t)
  | .load t x => match cX x, tySz P t with
    | some y, some sz => some (.load sz y)
    | _, _ => none
  | .store t x v => match cX x, cX v, P.info? t with
    | some x, some v, some i => some (.store i.size x v)
    | _, _, _ => none
  | .nilCheck x => (cX x).map .nilc
  | .binOp op t x y _ =>
    if isEq op then
      match P.underlying t with
      | some (.int _) => match cX x, cX y with
        | some x, some y => some (.bin op x y)
        | _, _ => none
      | some .bool => match cX x, cX y with
        | some x, some y => some (.eqb (isNeq op) x y)
        | _, _ => none
      | some (.struct _) | some (.array _ _) => match cX x, cX y, plainEq P 10000 t with
        | some x, some y, some ks => if P.eqGuardType P.depth t then none else some (.eqv (isNeq op) ks x y)
        | _, _, _ => none
      | _ => match nilKd P t y, cX x with
        | some kd, some x => some (.eqnil (isNeq op) kd x)
        | _, _ => none
    else match cX x, cX y with
      | some x, some y => some (.bin op x y)
      | _, _ => none
  | .unOp .not _ x => (cX x).map .not
  | .unOp .neg _ x => (cX x).map .neg
  | .convert src dst x => match P.underlying src, P.underlying dst, cX x with
    | some (.int _), some (.int k), some x => some (.conv k x)
    | _, _, _ => none
  | .fieldAddr s x f => match P.underlying s, cX x with
    | some (.struct fs), some x => match fs[f]? with
      | some f => match P.info? f.type with
        | some i => if i.size = 0 then none else some (.fld f.offset x)
        | none => none
      | none => none
    | _, _ => none
  | .field t x f => match P.underlying t, cX x with
    | some (.struct fs), some x => match fs[f]? with
      | some f => match tySz P f.type with
        | some sz => some (.field f.offset sz x)
        | none => none
      | none => none
    | _, _ => none
  | .indexAddr t x i => match P.underlying t, cX x, cX i with
    | some (.array n e), some x, some i => match P.info? e with
      | some j => some (.idxA n j.size x i)
      | none => none
    | some (.slice e), some x, some i => match P.info? e with
      | some j => some (.idxS j.size x i)
      | none => none
    | _, _, _ => none
  | .index t x i => match P.underlying t, cX x, cX i with
    | some (.array n e), some x, some i => match P.info? e, tySz P e with
      | some j, some sz => if szFits sz j.size then some (.index n j.size sz.isSome x i) else none
      | _, _ => none
    | some .string, some x, some i => some (.idxT x i)
    | _, _, _ => none
  | .extract x i => (cX x).map (.ext i)
  | .build t parts => match P.underlying t, zCells P t with
    | some (.struct fs), some z => if fs.all (fun f => (P.info? f.type).isSome) then (cParts (fieldPl P fs) parts.toList).map (.bld z) else none
    | some (.array _ e), some z => match P.info? e with
      | some j => (cParts (fun i => some (i * j.size, j.size)) parts.toList).map (.bld z)
      | none => none
    | _, _ => none
  | .buildSlice t len parts => match P.underlying t with
    | some (.slice e) => match P.info? e, zCells P e with
      | some j, some z => if (len * j.size ≤ 16777216 ∧ len ≤ 16777216) ∧ z.length = j.size then (cParts (fun i => some (i * j.size, j.size)) parts.toList).map (.bsl e j.size len ((List.replicate len z).flatten)) else none
      | _, _ => none
    | _ => none
  | .slice t x none (some h) (some m) => match P.underlying t, cX x, cX h, cX m with
    | some (.slice e), some x, some h, some m => match P.info? e with
      | some _ => some (.slc3 x h m)
      | none => none
    | _, _, _, _ => none
  | .slice t x lo hi none => match P.underlying t, cX x, cMaybe lo, cMaybe hi with
    | some (.slice e), some x, some lo, some hi => match P.info? e with
      | some j => some (.slc j.size x lo hi)
      | none => none
    | some (.array n e), some x, some lo, some hi => match P.info? e with
      | some j => some (.slcA n j.size x lo hi)
      | none => none
    | _, _, _, _ => none
  | .makeFunc f first cap => match cXs first.toList, cXs cap.toList with
    | some a, some c => some (.mkf f a c)
    | _, _ => none
  | .makeMap t none => some .mkm
  | .makeSlice t l c => match P.underlying t, cX l, cX c with
    | some (.slice e), some l, some c => match P.info? e, zCells P e with
      | some i, some z => if z.length = i.size ∧ 0 < i.size then some (.mks e i.size i.bytes z l c) else none
      | _, _ => none
    | _, _, _ => none
  | .lookup t m i ok => match P.underlying t, cX m, cX i with
    | some (.map kt et), some m, some i => match plainEq P 10000 kt, cZero P et with
      | some ks, some z => some (.look ks (aggOf P kt) z m i ok)
      | _, _ => none
    | _, _, _ => none
  | .mapUpdate t m i v | .insert t m i v => match P.underlying t, cX m, cX i, cX v with
    | some (.map kt et), some m, some i, some v => match plainEq P 10000 kt with
      | some ks => some (.mset ks (aggOf P kt) m i v)
      | none => none
    | _, _, _, _ => none
  | .mapEntry t m i => match P.underlying t, cX m, cX i with
    | some (.map kt et), some m, some i => match plainEq P 10000 kt, cZero P et with
      | some ks, some z => some (.mentr ks (aggOf P kt) z m i)
      | _, _ => none
    | _, _, _ => none
  | .entryStore t m s x => match cX m, cX s, cX x with
    | some m, some s, some x => some (.mstor m s x)
    | _, _, _ => none
  | .range t m => match P.underlying t, cX m with
    | some (.map _ _), some m => some (.mrange m)
    | _, _ => none
  | .next it s => if s then none else (cX it).map .mnext
  | .entry it => (cX it).map .mentry
  | .call c => match c.callee, c.args.toList, c.argTypes.toList with
    | .builtin .len, [x], [t] => match P.underlying t, cX x with
      | some (.slice _), some x => some (.len x)
      | some (.map _ _), some x => some (.mlen x)
      | some .string, some x => some (.lens x)
      | _, _ => none
    | .builtin .clear, [x], [t] => match P.underlying t, cX x with
      | some (.slice e), some x => match P.info? e, zCells P e with
        | some i, some z => if z.length = i.size ∧ 0 < i.size then some (.clr i.size z x) else none
        | _, _ => none
      | _, _ => none
    | .builtin .copy, [x, y], [t, _] => match P.underlying t, cX x, cX y with
      | some (.slice e), some x, some y => match P.info? e with
        | some i => some (.copy e i.size x y)
        | none => none
      | _, _, _ => none
    | .builtin .delete, [m, i], [t, t'] => match P.underlying t, cX m, cX i with
      | some (.map kt et), some m, some i => match plainEq P 10000 kt with
        | some ks => some (.mdel ks (aggOf P kt) m i)
        | none => none
      | _, _, _ => none
    | .builtin .append, [x, y], [t, t'] => if t = t' then match P.underlying t, cX x, cX y with
        | some (.slice e), some x, some y => match P.info? e, zCells P e with
          | some i, some z => if z.length = i.size ∧ 0 < i.size then some (.app e i.size i.bytes x y) else none
          | _, _ => none
        | _, _, _ => none
      else none
    | .value f, args, _ => match cX f, cXs args with
      | some f, some args => some (.call f args)
      | _, _ => none
    | .builtin .max, [x, y], _ => match cX x, cX y with
      | some x, some y => some (.mx x y)
      | _, _ => none
    | .builtin .min, [x, y], _ => match cX x, cX y with
      | some x, some y => some (.mn x y)
      | _, _ => none
    | _, _, _ => none
  | _ => none
end Go.Sl

/-
  The machine does what 'sop' says: first part.
-/
set_option linter.unusedSimpArgs false
set_option linter.unusedSectionVars false
set_option linter.unusedVariables false
namespace Go.Sl
open Go.RowKit

def Sound (P : Program) (o : Oper) (E : Nat → Option SV) (H : Nat → Option Ob) (k : Nat) (e : Eff) : Prop :=
  OT P o E e.F (fun n => k ≤ n ∧ n < k + e.nk) e.v e.F' ∧ ∀ n ob, lk e.F n = some ob → H n = some ob

section
variable {P : Program} {o : Oper} {E : Nat → Option SV} {H : Nat → Option Ob} {k : Nat} {own : Bool} {e : Eff}

theorem sub_nil : ∀ n ob, lk ([] : Hp) n = some ob → H n = some ob := fun n ob h => by simp [lk_nil] at h
theorem sub_one {n : Nat} {ob : Ob} (h : H n = some ob) : ∀ m ob', lk [(n, ob)] m = some ob' → H m = some ob' := fun m ob' hm => by
  rw [lk_one] at hm
  split at hm
  · rename_i e
    simp at hm
    subst hm; subst e
    exact h
  · cases hm

theorem s_mv {x : Operand} {y : X} (ho : o.op = .move x ∨ o.op = .assign x) (hx : cX x = some y) (he : sop E H k own (.mv y) = some e) : Sound P o E H k e := by
  simp only [sop] at he
  split at he <;> first | (cases he; done) | skip
  rename_i s hs
  injection he with he
  subst he
  refine ⟨OT.pure fun p μ M a w hk hS => ⟨a.eval x, ?_, hk.get (by rcases ho with h | h <;> simp [h, Op.operands]) hx hs⟩, sub_nil⟩
  rcases ho with h | h <;> simp [execOp, h]

theorem s_pick {c x y : Operand} {c' x' y' : X} (ho : o.op = .pick c x y) (hc : cX c = some c') (hx : cX x = some x') (hy : cX y = some y') (he : sop E H k own (.pick c' x' y') = some e) : Sound P o E H k e := by
  simp only [sop] at he
  split at he <;> first | (cases he; done) | skip
  · rename_i hb
    split at he <;> first | (cases he; done) | skip
    rename_i s hs
    injection he with he
    subst he
    refine ⟨OT.pure fun p μ M a w hk hS => ⟨a.eval x, ?_, hk.get (by simp [ho, Op.operands]) hx hs⟩, sub_nil⟩
    have := Rp.bool_iff.1 (hk.get (by simp [ho, Op.operands]) hc hb)
    simp [execOp, ho, this, asBool]
  · rename_i hb
    split at he <;> first | (cases he; done) | skip
    rename_i s hs
    injection he with he
    subst he
    refine ⟨OT.pure fun p μ M a w hk hS => ⟨a.eval y, ?_, hk.get (by simp [ho, Op.operands]) hy hs⟩, sub_nil⟩
    have := Rp.bool_iff.1 (hk.get (by simp [ho, Op.operands]) hc hb)
    simp [execOp, ho, this, asBool]

theorem Rp.ptr_mk {p : Nat → Prop} {μ : Nat → Nm} {M : Mem} {n off : Nat} (hp : p n) : Rp p μ M (.ptr n off) (.pointer (some ⟨(μ n).blk, off, none⟩)) := fun μ' h => by
  simp [Rep, h n hp]
theorem Rp.ptr_of {p : Nat → Prop} {μ : Nat → Nm} {M : Mem} {n off : Nat} {v : Value} (h : Rp p μ M (.ptr n off) v) : v = .pointer (some ⟨(μ n).blk, off, none⟩) := by
  simpa [Rep] using h.rep

theorem Rp.gs_of {p : Nat → Prop} {μ : Nat → Nm} {M : Mem} {n len : Nat} {v : Value} (h : Rp p μ M (.gs n len) v) : ((μ n).live = true ∧ v = .slice (some ⟨(μ n).blk, 0, none⟩) len (μ n).cap) ∨ ((μ n).live = false ∧ len = 0 ∧ ∃ A, v = .slice A 0 0) := by
  simpa [Rep] using h.rep

theorem s_alloc {t : TypeId} {z : List SV} (ho : o.op = .alloc t) (hz : zCells P t = some z) (he : sop E H k own (.alloc t z) = some e) : Sound P o E H k e := by
  simp only [sop] at he
  injection he with he
  subst he
  refine ⟨OT.make fun p μ M a w hk hM => ?_, sub_nil⟩
  obtain ⟨v, hv, _, h2⟩ := zCells_rep hz (p := p) (μ := μ) (M := M)
  refine ⟨.pointer (some ⟨w.heap.size, 0, none⟩), .cells v.cells t, 0, ?_, fun p' μ' hp hμ hpk hk' => ⟨⟨rfl, v.cells, heap_new w _, ?_⟩, ?_⟩⟩
  · simp [execOp, ho, Instr.alloc, hv, newVar, newRow]
  · obtain ⟨v', hv', h1', _⟩ := zCells_rep hz (p := p') (μ := μ') (M := M)
    have := hv w; rw [hv' w] at this
    injection this with this
    subst this
    exact h1'
  · have := Rp.ptr_mk (μ := μ') (M := M) (n := k) (off := 0) hpk
    rwa [hk'] at this

theorem s_box {t : TypeId} {x : Operand} {y : X} (ho : o.op = .box t x) (hx : cX x = some y) (he : sop E H k own (.box t y) = some e) : Sound P o E H k e := by
  simp only [sop] at he
  split at he <;> first | (cases he; done) | skip
  rename_i s hs
  split at he <;> first | (cases he; done) | skip
  rename_i hone
  injection he with he
  subst he
  refine ⟨OT.make fun p μ M a w hk hM => ?_, sub_nil⟩
  have hv := hk.get (by simp [ho, Op.operands]) hx hs
  refine ⟨.pointer (some ⟨w.heap.size, 0, none⟩), .cells (a.eval x).cells t, 0, ?_, fun p' μ' hp hμ hpk hk' => ⟨⟨rfl, (a.eval x).cells, heap_new w _, ?_⟩, ?_⟩⟩
  · simp [execOp, ho, Instr.box, newVar, newRow]
  · exact (Rp.cells hone (hv.more hp hμ (Mem.le_refl M))).1
  · have := Rp.ptr_mk (μ := μ') (M := M) (n := k) (off := 0) hpk
    rwa [hk'] at this

theorem s_load {t : TypeId} {x : Operand} {y : X} {sz : Option Nat} (ho : o.op = .load t x) (hx : cX x = some y) (ht : tySz P t = some sz) (he : sop E H k own (.load sz y) = some e) (hob : e.ob) : Sound P o E H k e := by
  simp only [sop] at he
  split at he <;> first | (cases he; done) | skip
  rename_i s hs
  split at he <;> first | (cases he; done) | skip
  rename_i cs off F hc
  split at he <;> first | (cases he; done) | skip
  rename_i v hv
  injection he with he
  subst he
  refine ⟨OT.pure fun p μ M a w hk hS => ?_, cellsAt_sub hc⟩
  obtain ⟨b, q, e1, hr⟩ := cellsAt_reads hc (hk.get (by simp [ho, Op.operands]) hx hs) hS
  obtain ⟨u, hu, hr'⟩ := ldv_run ht hv hob hr
  refine ⟨u, ?_, hr'⟩
  simp [execOp, ho, Instr.loadAt, e1, Instr.sureAddr, hu]

theorem s_nilc {x : Operand} {y : X} (ho : o.op = .nilCheck x) (hx : cX x = some y) (he : sop E H k own (.nilc y) = some e) : Sound P o E H k e := by
  simp only [sop] at he
  split at he <;> first | (cases he; done) | skip
  · rename_i n off hs
    injection he with he
    subst he
    refine ⟨OT.pure fun p μ M a w hk hS => ⟨a.eval x, ?_, hk.get (by simp [ho, Op.operands]) hx hs⟩, sub_nil⟩
    have := (hk.get (by simp [ho, Op.operands]) hx hs).ptr_of
    simp [execOp, ho, this]
  · rename_i cs i hs
    injection he with he
    subst he
    refine ⟨OT.pure fun p μ M a w hk hS => ⟨a.eval x, ?_, hk.get (by simp [ho, Op.operands]) hx hs⟩, sub_nil⟩
    obtain ⟨b, q, e1, _⟩ := (by simpa [Rep] using (hk.get (by simp [ho, Op.operands]) hx hs).rep : ∃ b q, a.eval x = .pointer (some ⟨b, q + i, none⟩) ∧ RepR M b q cs)
    simp [execOp, ho, e1]

theorem s_not {t : TypeId} {x : Operand} {y : X} (ho : o.op = .unOp .not t x) (hx : cX x = some y) (he : sop E H k own (.not y) = some e) : Sound P o E H k e := by
  simp only [sop] at he
  split at he <;> first | (cases he; done) | skip
  rename_i b hs
  injection he with he
  subst he
  refine ⟨OT.pure fun p μ M a w hk hS => ⟨.bool !b, ?_, Rp.bool_iff.2 rfl⟩, sub_nil⟩
  have := Rp.bool_iff.1 (hk.get (by simp [ho, Op.operands]) hx hs)
  simp [execOp, ho, this, Op.unary]

theorem s_neg {t : TypeId} {x : Operand} {y : X} (ho : o.op = .unOp .neg t x) (hx : cX x = some y) (he : sop E H k own (.neg y) = some e) : Sound P o E H k e := by
  simp only [sop] at he
  split at he <;> first | (cases he; done) | skip
  rename_i kd n hs
  injection he with he
  subst he
  refine ⟨OT.pure fun p μ M a w hk hS => ⟨.int kd (kd.wrap (-n)), ?_, Rp.int_iff.2 rfl⟩, sub_nil⟩
  have := Rp.int_iff.1 (hk.get (by simp [ho, Op.operands]) hx hs)
  simp [execOp, ho, this, Op.unary, Op.intArith]

theorem s_conv {s d : TypeId} {x : Operand} {y : X} {ks kd : IntKind} (ho : o.op = .convert s d x) (h1 : P.underlying s = some (.int ks)) (h2 : P.underlying d = some (.int kd)) (hx : cX x = some y)
    (he : sop E H k own (.conv kd y) = some e) : Sound P o E H k e := by
  simp only [sop] at he
  split at he <;> first | (cases he; done) | skip
  rename_i kk n hs
  injection he with he
  subst he
  refine ⟨OT.pure fun p μ M a w hk hS => ⟨.int kd (kd.wrap n), ?_, Rp.int_iff.2 rfl⟩, sub_nil⟩
  have := Rp.int_iff.1 (hk.get (by simp [ho, Op.operands]) hx hs)
  simp [execOp, ho, this, convert, run_underlying h1, run_underlying h2, Conv.intToInt]

theorem s_ext {x : Operand} {y : X} {i : Nat} (ho : o.op = .extract x i) (hx : cX x = some y) (he : sop E H k own (.ext i y) = some e) : Sound P o E H k e := by
  simp only [sop] at he
  split at he <;> first | (cases he; done) | skip
  rename_i cs hs
  split at he <;> first | (cases he; done) | skip
  rename_i v hv
  injection he with he
  subst he
  refine ⟨OT.pure fun p μ M a w hk hS => ?_, sub_nil⟩
  obtain ⟨vs, e1, hr⟩ := Rp.tup_iff.1 (hk.get (by simp [ho, Op.operands]) hx hs)
  obtain ⟨u, hu, hu'⟩ := hr.get hv
  refine ⟨u, ?_, hu'⟩
  have : vs[i]? = some u := by simpa using hu
  simp [execOp, ho, e1, Instr.extract, this]

theorem s_lens {c : Call} {t : TypeId} {x : Operand} {y : X} (ho : o.op = .call c) (hcal : c.callee = .builtin .len) (ha : c.args.toList = [x]) (hat : c.argTypes.toList = [t]) (ht : P.underlying t = some .string)
    (hx : cX x = some y) (he : sop E H k own (.lens y) = some e) : Sound P o E H k e := by
  have ha' : c.args = #[x] := by cases hh : c.args; simp [hh] at ha; simp [ha]
  have hat' : c.argTypes = #[t] := by cases hh : c.argTypes; simp [hh] at hat; simp [hat]
  have hin : x ∈ o.op.operands := by simp [ho, Op.operands, Call.operands, hcal, ha']
  simp only [sop] at he
  split at he <;> first | (cases he; done) | skip
  rename_i s hs
  injection he with he
  subst he
  refine ⟨OT.pure fun p μ M a w hk hS => ⟨.int .i64 s.length, ?_, Rp.int_iff.2 rfl⟩, sub_nil⟩
  obtain ⟨b, e1, rfl⟩ := (by simpa [RepD] using Rp.d_iff.1 (hk.get hin hx hs) : ∃ b : ByteArray, a.eval x = .string b ∧ b.data.toList.map UInt8.toNat = s)
  simp [execOp, ho, resolve, hcal, ha', hat', invoke, builtin, e1, Builtin.len_, run_underlying ht, goInt]
theorem bytes_at {b : ByteArray} {i : Nat} (h : i < b.data.size) : b[i]? = some (b.data[i]) := by
  have h' : i < b.size := h
  rw [getElem?_pos b i h']
  rfl
theorem s_idxT {t : TypeId} {x i : Operand} {y j : X} (ho : o.op = .index t x i) (ht : P.underlying t = some .string) (hx : cX x = some y) (hj : cX i = some j)
    (he : sop E H k own (.idxT y j) = some e) (hob : e.ob) : Sound P o E H k e := by
  simp only [sop] at he
  split at he <;> first | (cases he; done) | skip
  rename_i s kk n hs hn
  injection he with he
  subst he
  refine ⟨OT.pure fun p μ M a w hk hS => ⟨.int .u8 ((s.getD n.toNat 0 : Nat) : Int), ?_, Rp.int_iff.2 rfl⟩, sub_nil⟩
  obtain ⟨b, e1, rfl⟩ := (by simpa [RepD] using Rp.d_iff.1 (hk.get (by simp [ho, Op.operands]) hx hs) : ∃ b : ByteArray, a.eval x = .string b ∧ b.data.toList.map UInt8.toNat = s)
  have e2 := Rp.int_iff.1 (hk.get (by simp [ho, Op.operands]) hj hn)
  obtain ⟨h1, h2⟩ := hob
  have h3 : n.toNat < b.data.size := by
    show n.toNat < b.size
    simp at h2; omega
  have h4 := bytes_at h3
  have h5 : b.data[n.toNat]? = some b.data[n.toNat] := Array.getElem?_eq_getElem h3
  simp [execOp, ho, Instr.index, run_underlying ht, e1, e2, asIntOf, h1, h4, h5]
theorem s_len {c : Call} {t : TypeId} {x : Operand} {y : X} {el : TypeId} (ho : o.op = .call c) (hcal : c.callee = .builtin .len) (ha : c.args.toList = [x]) (hat : c.argTypes.toList = [t]) (ht : P.underlying t = some (.slice el))
    (hx : cX x = some y) (he : sop E H k own (.len y) = some e) : Sound P o E H k e := by
  have ha' : c.args = #[x] := by cases hh : c.args; simp [hh] at ha; simp [ha]
  have hat' : c.argTypes = #[t] := by cases hh : c.argTypes; simp [hh] at hat; simp [hat]
  have hin : x ∈ o.op.operands := by simp [ho, Op.operands, Call.operands, hcal, ha']
  have run : ∀ (a : Act) (w : World) (A : Option Addr) (n cp : Nat), a.eval x = .slice A n cp → (execOp a.eval o).run P w = .ok (.value (.int .i64 n)) w := by
    intro a w A n cp h
    simp [execOp, ho, resolve, hcal, ha', hat', invoke, builtin, h, Builtin.len_, run_underlying ht, goInt]
  simp only [sop] at he
  split at he <;> first | (cases he; done) | skip
  · rename_i n cs hs
    injection he with he
    subst he
    refine ⟨OT.pure fun p μ M a w hk hS => ⟨.int .i64 n, ?_, Rp.int_iff.2 rfl⟩, sub_nil⟩
    obtain ⟨A, cp, e1, _⟩ := (by simpa [RepD] using Rp.d_iff.1 (hk.get hin hx hs) : ∃ A cp, a.eval x = .slice A n cp ∧ _)
    exact run a w A n cp e1
  · rename_i hs
    injection he with he
    subst he
    refine ⟨OT.pure fun p μ M a w hk hS => ⟨.int .i64 0, ?_, Rp.int_iff.2 rfl⟩, sub_nil⟩
    have e1 : a.eval x = .slice none 0 0 := by simpa [RepD] using Rp.d_iff.1 (hk.get hin hx hs)
    exact run a w none 0 0 e1
  · rename_i m n hs
    injection he with he
    subst he
    refine ⟨OT.pure fun p μ M a w hk hS => ⟨.int .i64 n, ?_, Rp.int_iff.2 rfl⟩, sub_nil⟩
    rcases (hk.get hin hx hs).gs_of with ⟨_, e1⟩ | ⟨_, rfl, _, e1⟩
    · exact run a w _ n _ e1
    · exact run a w _ 0 _ e1
  · rename_i m off n hs
    injection he with he
    subst he
    refine ⟨OT.pure fun p μ M a w hk hS => ⟨.int .i64 n, ?_, Rp.int_iff.2 rfl⟩, sub_nil⟩
    obtain ⟨A, c, e1, _⟩ := (by simpa [Rep] using (hk.get hin hx hs).rep : ∃ A c, a.eval x = .slice (some A) n c ∧ _)
    exact run a w _ n _ e1

theorem s_mx {c : Call} {x y : Operand} {x' y' : X} (ho : o.op = .call c) (hcal : c.callee = .builtin .max) (ha : c.args.toList = [x, y])
    (hx : cX x = some x') (hy : cX y = some y') (he : sop E H k own (.mx x' y') = some e) : Sound P o E H k e := by
  have ha' : c.args = #[x, y] := by cases hh : c.args; simp [hh] at ha; simp [ha]
  simp only [sop] at he
  split at he <;> first | (cases he; done) | skip
  rename_i kk m kk' n h1 h2
  injection he with he
  subst he
  refine ⟨OT.pure fun p μ M a w hk hS => ⟨_, ?_, Rp.int_iff.2 rfl⟩, sub_nil⟩
  have e1 := Rp.int_iff.1 (hk.get (by simp [ho, Op.operands, Call.operands, hcal, ha']) hx h1)
  have e2 := Rp.int_iff.1 (hk.get (by simp [ho, Op.operands, Call.operands, hcal, ha']) hy h2)
  simp [execOp, ho, resolve, hcal, ha', invoke, builtin, e1, e2, Builtin.max_, Builtin.max2]
theorem s_mn {c : Call} {x y : Operand} {x' y' : X} (ho : o.op = .call c) (hcal : c.callee = .builtin .min) (ha : c.args.toList = [x, y])
    (hx : cX x = some x') (hy : cX y = some y') (he : sop E H k own (.mn x' y') = some e) : Sound P o E H k e := by
  have ha' : c.args = #[x, y] := by cases hh : c.args; simp [hh] at ha; simp [ha]
  simp only [sop] at he
  split at he <;> first | (cases he; done) | skip
  rename_i kk m kk' n h1 h2
  injection he with he
  subst he
  refine ⟨OT.pure fun p μ M a w hk hS => ⟨_, ?_, Rp.int_iff.2 rfl⟩, sub_nil⟩
  have e1 := Rp.int_iff.1 (hk.get (by simp [ho, Op.operands, Call.operands, hcal, ha']) hx h1)
  have e2 := Rp.int_iff.1 (hk.get (by simp [ho, Op.operands, Call.operands, hcal, ha']) hy h2)
  simp [execOp, ho, resolve, hcal, ha', invoke, builtin, e1, e2, Builtin.min_, Builtin.min2]

theorem s_mkf {f : Fn} {a c : Array Operand} {a' c' : List X} (ho : o.op = .makeFunc f a c) (ha : cXs a.toList = some a') (hc : cXs c.toList = some c') (he : sop E H k own (.mkf f a' c') = some e) : Sound P o E H k e := by
  simp only [sop] at he
  split at he <;> first | (cases he; done) | skip
  rename_i s s' h1 h2
  injection he with he
  subst he
  refine ⟨OT.pure fun p μ M ac w hk hS => ⟨.func f (a.map ac.eval) (c.map ac.eval), by simp [execOp, ho, Instr.makeFunc], Rp.fn_iff.2 ⟨_, _, rfl, ?_, ?_⟩⟩, sub_nil⟩
  · simpa using hk.gets (os := a.toList) (fun x hx => by rw [ho]; simp only [Op.operands, Array.mem_append]; exact .inl (by simpa using hx)) ha h1
  · simpa using hk.gets (os := c.toList) (fun x hx => by rw [ho]; simp only [Op.operands, Array.mem_append]; exact .inr (by simpa using hx)) hc h2

theorem s_mkm {t : TypeId} (ho : o.op = .makeMap t none) (he : sop E H k own .mkm = some e) : Sound P o E H k e := by
  simp only [sop] at he
  injection he with he
  subst he
  refine ⟨OT.make fun p μ M a w hk hM => ⟨.map (some w.heap.size), .map #[] 0, 0, ?_, fun p' μ' hp hμ hpk hk' => ⟨⟨rfl, #[], heap_new w _, by simp [RpE]⟩, fun ν hν => ?_⟩⟩, sub_nil⟩
  · simp [execOp, ho, Instr.makeMap]
  · exact .inl (by simp [hν k hpk, hk'])

/-! ### addresses -/
theorem mvp_rep {n : Nat} {s v : SV} (h : mvp n s = some v) {p : Nat → Prop} {μ : Nat → Nm} {M : Mem} {u : Value} (hu : Rp p μ M s u) :
    ∃ b q, u = .pointer (some ⟨b, q, none⟩) ∧ Rp p μ M v (.pointer (some ⟨b, q + n, none⟩)) := by
  cases s <;> simp [mvp] at h
  case ptr m off =>
    subst h
    refine ⟨(μ m).blk, off, hu.ptr_of, fun ν hν => ?_⟩
    have h1 := hu ν hν
    have h2 := hu.rep
    simp only [Rep] at h1 h2 ⊢
    rw [h2] at h1
    injection h1 with h1
    injection h1 with h1
    injection h1 with h1
    rw [h1]
  case vp cs i =>
    subst h
    obtain ⟨b, q, e1, hr⟩ := (by simpa [Rep] using hu.rep : ∃ b q, u = .pointer (some ⟨b, q + i, none⟩) ∧ RepR M b q cs)
    refine ⟨b, q + i, e1, fun ν hν => ?_⟩
    simp only [Rep]
    exact ⟨b, q, by rw [Nat.add_assoc], hr⟩

theorem s_fld {s : TypeId} {x : Operand} {y : X} {f : Nat} {fs : Array Field} {fl : Field} {i : TypeInfo} (ho : o.op = .fieldAddr s x f) (hs : P.underlying s = some (.struct fs)) (hf : fs[f]? = some fl)
    (hi : P.info? fl.type = some i) (hi0 : ¬ i.size = 0) (hx : cX x = some y) (he : sop E H k own (.fld fl.offset y) = some e) : Sound P o E H k e := by
  simp only [sop] at he
  split at he <;> first | (cases he; done) | skip
  rename_i sv hsv
  split at he <;> first | (cases he; done) | skip
  rename_i v hv
  injection he with he
  subst he
  refine ⟨OT.pure fun p μ M a w hk hS => ?_, sub_nil⟩
  obtain ⟨b, q, e1, hr⟩ := mvp_rep hv (hk.get (by simp [ho, Op.operands]) hx hsv)
  refine ⟨_, ?_, hr⟩
  simp [execOp, ho, Instr.fieldAt, run_underlying hs, hf, e1, Instr.sureAddr, fieldPlace, run_size hi, hi0, addr_add]

theorem s_idxA {t el : TypeId} {n : Nat} {x i : Operand} {y j : X} {ti : TypeInfo} (ho : o.op = .indexAddr t x i) (ht : P.underlying t = some (.array n el)) (hi : P.info? el = some ti) (hx : cX x = some y) (hj : cX i = some j)
    (he : sop E H k own (.idxA n ti.size y j) = some e) (hob : e.ob) : Sound P o E H k e := by
  simp only [sop] at he
  split at he <;> first | (cases he; done) | skip
  rename_i s kk m hs hm
  split at he <;> first | (cases he; done) | skip
  rename_i v hv
  injection he with he
  subst he
  refine ⟨OT.pure fun p μ M a w hk hS => ?_, sub_nil⟩
  obtain ⟨b, q, e1, hr⟩ := mvp_rep hv (hk.get (by simp [ho, Op.operands]) hx hs)
  have e2 := Rp.int_iff.1 (hk.get (by simp [ho, Op.operands]) hj hm)
  refine ⟨_, ?_, hr⟩
  simp [execOp, ho, Instr.indexAt, run_underlying ht, e1, e2, Instr.sureAddr, asIntOf, run_size hi, hob.1, hob.2, addr_add]

theorem s_idxS {t el : TypeId} {x i : Operand} {y j : X} {ti : TypeInfo} (ho : o.op = .indexAddr t x i) (ht : P.underlying t = some (.slice el)) (hi : P.info? el = some ti) (hx : cX x = some y) (hj : cX i = some j)
    (he : sop E H k own (.idxS ti.size y j) = some e) (hob : e.ob) : Sound P o E H k e := by
  simp only [sop] at he
  split at he <;> first | (cases he; done) | skip
  · rename_i n cs kk m hs hm
    injection he with he
    subst he
    refine ⟨OT.pure fun p μ M a w hk hS => ?_, sub_nil⟩
    have hob1 : 0 ≤ m := hob.1
    have hob2 : m < (n : Int) := hob.2
    obtain ⟨A, cp, e1, _, _, h4⟩ := (by simpa [RepD] using Rp.d_iff.1 (hk.get (by simp [ho, Op.operands]) hx hs) : ∃ A cp, a.eval x = .slice A n cp ∧ n ≤ cp ∧ (n = 0 → cs = []) ∧ (0 < n → ∃ b q, A = some ⟨b, q, none⟩ ∧ RepR M b q cs))
    obtain ⟨b, q, rfl, hr⟩ := h4 (by omega)
    have e2 := Rp.int_iff.1 (hk.get (by simp [ho, Op.operands]) hj hm)
    refine ⟨.pointer (some ⟨b, q + m.toNat * ti.size, none⟩), ?_, fun ν hν => ?_⟩
    · simp [execOp, ho, Instr.indexAt, run_underlying ht, e1, e2, asIntOf, run_size hi, hob1, hob2, addr_add]
    · simp only [Rep]
      exact ⟨b, q, rfl, hr⟩
  · rename_i n l kk m hs hm
    injection he with he
    subst he
    refine ⟨OT.pure fun p μ M a w hk hS => ?_, sub_nil⟩
    have hob1 : 0 ≤ m := hob.1
    have hob2 : m < (l : Int) := hob.2
    have hs' := hk.get (by simp [ho, Op.operands]) hx hs
    obtain ⟨hl, e1⟩ : (μ n).live = true ∧ a.eval x = .slice (some ⟨(μ n).blk, 0, none⟩) l (μ n).cap := by
      rcases hs'.gs_of with h | ⟨_, h, _⟩
      · exact h
      · omega
    have e2 := Rp.int_iff.1 (hk.get (by simp [ho, Op.operands]) hj hm)
    refine ⟨.pointer (some ⟨(μ n).blk, 0 + m.toNat * ti.size, none⟩), ?_, fun ν hν => ?_⟩
    · simp [execOp, ho, Instr.indexAt, run_underlying ht, e1, e2, asIntOf, run_size hi, hob1, hob2, addr_add]
    · have := hs' ν hν
      rw [e1] at this
      simp only [Rep] at this ⊢
      rcases this with ⟨_, this⟩ | ⟨_, h, _⟩
      · injection this with t1
        injection t1 with t1
        injection t1 with t1
        rw [t1]
        simp
      · omega
  · rename_i n off l kk m hs hm
    injection he with he
    subst he
    refine ⟨OT.pure fun p μ M a w hk hS => ?_, sub_nil⟩
    have hob1 : 0 ≤ m := hob.1
    have hob2 : m < (l : Int) := hob.2
    have hs' := hk.get (by simp [ho, Op.operands]) hx hs
    obtain ⟨A, c, e1, _, hA⟩ := (by simpa [Rep] using hs'.rep : ∃ A c, a.eval x = .slice (some A) l c ∧ l ≤ c ∧ (¬ l = 0 → A = ⟨(μ n).blk, off, none⟩))
    have hA := hA (by omega)
    subst hA
    have e2 := Rp.int_iff.1 (hk.get (by simp [ho, Op.operands]) hj hm)
    refine ⟨.pointer (some ⟨(μ n).blk, off + m.toNat * ti.size, none⟩), ?_, fun ν hν => ?_⟩
    · simp [execOp, ho, Instr.indexAt, run_underlying ht, e1, e2, asIntOf, run_size hi, hob1, hob2, addr_add]
    · have := hs' ν hν
      rw [e1] at this
      simp only [Rep] at this ⊢
      obtain ⟨A, c', h1, _, h2⟩ := this
      injection h1 with h1
      injection h1 with h1
      have h2 := h2 (by omega)
      rw [← h1] at h2
      injection h2 with h2
      rw [h2]

/-! ### whole numbers -/
theorem shr_fdiv (a : Int) (n : Nat) : a.fdiv (2 ^ n) = a / 2 ^ n := by
  rw [Int.fdiv_eq_ediv_of_nonneg]
  exact Int.le_of_lt (Int.pow_pos (by decide))
theorem bin_run {op : BinOp} {t : TypeId} {w : World} {ka kb : IntKind} {a b : Int} {v : SV} {ob : Prop} (hk : binK op ka kb = true) (h : binV op ka a b = some (v, ob)) (hob : ob) :
    ∃ u, (binOp op t (.int ka a) (.int kb b)).run P w = .ok u w ∧ ∀ (p : Nat → Prop) (μ : Nat → Nm) (M : Mem), Rp p μ M v u := by
  cases op <;> simp [binK] at hk <;> simp only [binV, Option.some.injEq, Prod.mk.injEq] at h <;> obtain ⟨rfl, rfl⟩ := h <;> (try subst hk)
  case add => exact ⟨_, by rw [binOp_add]; rfl, fun _ _ _ => Rp.int_iff.2 rfl⟩
  case sub => exact ⟨_, by rw [binOp_sub]; rfl, fun _ _ _ => Rp.int_iff.2 rfl⟩
  case mul => exact ⟨_, by rw [binOp_mul]; rfl, fun _ _ _ => Rp.int_iff.2 rfl⟩
  case quo => exact ⟨_, by rw [binOp_quo]; simp [Op.intDiv, hob], fun _ _ _ => Rp.int_iff.2 rfl⟩
  case rem => exact ⟨_, by rw [binOp_rem]; simp [Op.intDiv, hob], fun _ _ _ => Rp.int_iff.2 rfl⟩
  case and => exact ⟨_, by rw [binOp_and]; rfl, fun _ _ _ => Rp.int_iff.2 rfl⟩
  case or => exact ⟨_, by rw [binOp_or]; rfl, fun _ _ _ => Rp.int_iff.2 rfl⟩
  case xor => exact ⟨_, by rw [binOp_xor]; rfl, fun _ _ _ => Rp.int_iff.2 rfl⟩
  case andNot => exact ⟨_, by rw [binOp_andNot]; rfl, fun _ _ _ => Rp.int_iff.2 rfl⟩
  case shl => exact ⟨_, by rw [binOp_shl, shift_shl ka kb a b hob.1 hob.2]; rfl, fun _ _ _ => Rp.int_iff.2 rfl⟩
  case shr => exact ⟨_, by rw [binOp_shr, shift_shr ka kb a b hob.1 hob.2]; rfl, fun _ _ _ => Rp.int_iff.2 rfl⟩
  case eql => exact ⟨_, by rw [binOp_eql]; rfl, fun _ _ _ => Rp.bool_iff.2 rfl⟩
  case neq => exact ⟨_, by rw [binOp_neq]; rfl, fun _ _ _ => Rp.bool_iff.2 rfl⟩
  case lss => exact ⟨_, by rw [binOp_lss]; rfl, fun _ _ _ => Rp.bool_iff.2 rfl⟩
  case leq => exact ⟨_, by rw [binOp_leq]; rfl, fun _ _ _ => Rp.bool_iff.2 rfl⟩
  case gtr => exact ⟨_, by rw [binOp_gtr]; rfl, fun _ _ _ => Rp.bool_iff.2 rfl⟩
  case geq => exact ⟨_, by rw [binOp_geq]; rfl, fun _ _ _ => Rp.bool_iff.2 rfl⟩

theorem s_bin {op : BinOp} {t t' : TypeId} {x y : Operand} {x' y' : X} (ho : o.op = .binOp op t x y t') (hx : cX x = some x') (hy : cX y = some y') (he : sop E H k own (.bin op x' y') = some e) (hob : e.ob) : Sound P o E H k e := by
  simp only [sop] at he
  split at he <;> first | (cases he; done) | skip
  rename_i ka a kb b h1 h2
  split at he <;> first | (cases he; done) | skip
  rename_i hkk
  split at he <;> first | (cases he; done) | skip
  rename_i v ob hv
  injection he with he
  subst he
  refine ⟨OT.pure fun p μ M ac w hk hS => ?_, sub_nil⟩
  have e1 := Rp.int_iff.1 (hk.get (by simp [ho, Op.operands]) hx h1)
  have e2 := Rp.int_iff.1 (hk.get (by simp [ho, Op.operands]) hy h2)
  obtain ⟨u, hu, hr⟩ := bin_run (P := P) (t := t) (w := w) hkk hv hob
  refine ⟨u, ?_, hr p μ M⟩
  simp [execOp, ho, e1, e2, eqGuard_at_int, hu]
end
end Go.Sl

/-
  The machine does what 'sop' says: second part: parts of values, '==', stores, literals, slices of slices.
-/
set_option linter.unusedSimpArgs false
set_option linter.unusedSectionVars false
set_option linter.unusedVariables false
namespace Go.Sl
open Go.RowKit

section
variable {P : Program} {o : Oper} {E : Nat → Option SV} {H : Nat → Option Ob} {k : Nat} {own : Bool} {e : Eff}

theorem part_ldv {w : World} {t : TypeId} {sz : Option Nat} (ht : tySz P t = some sz) {cs : List SV} {vs : Array Value} {off : Nat} {s : SV} (h : ldv cs off sz = some s) (hle : ldo cs off sz) {p : Nat → Prop} {μ : Nat → Nm} {M : Mem}
    (hr : Rps p μ M cs vs.toList) : ∃ v, (part t vs off).run P w = .ok v w ∧ Rp p μ M s v := by
  cases sz with
  | none =>
    obtain ⟨u, hu, hr'⟩ := hr.get h
    have hu' : vs[off]? = some u := by simpa using hu
    exact ⟨u, by simp [part, tySz_none ht, hu'], hr'⟩
  | some m =>
    simp only [ldo] at hle
    simp [ldv] at h
    subst h
    refine ⟨.agg (vs.extract off (off + m)), by simp [part, (tySz_some ht).1, (tySz_some ht).2], Rp.agg_iff.2 ⟨_, rfl, ?_⟩⟩
    have := (hr.drop off).take m
    simpa using this

theorem s_field {t : TypeId} {x : Operand} {y : X} {f : Nat} {fs : Array Field} {fl : Field} {sz : Option Nat} (ho : o.op = .field t x f) (hs : P.underlying t = some (.struct fs)) (hf : fs[f]? = some fl)
    (hz : tySz P fl.type = some sz) (hx : cX x = some y) (he : sop E H k own (.field fl.offset sz y) = some e) (hob : e.ob) : Sound P o E H k e := by
  simp only [sop] at he
  split at he <;> first | (cases he; done) | skip
  rename_i cs hcs
  split at he <;> first | (cases he; done) | skip
  rename_i v hv
  injection he with he
  subst he
  refine ⟨OT.pure fun p μ M a w hk hS => ?_, sub_nil⟩
  obtain ⟨vs, e1, hr⟩ := Rp.agg_iff.1 (hk.get (by simp [ho, Op.operands]) hx hcs)
  obtain ⟨u, hu, hr'⟩ := part_ldv (P := P) (w := w) hz hv hob hr
  refine ⟨u, ?_, hr'⟩
  simp [execOp, ho, Instr.field, run_underlying hs, hf, e1, asAgg, hu]

theorem s_index {t el : TypeId} {n : Nat} {x i : Operand} {y j : X} {ti : TypeInfo} {sz : Option Nat} (ho : o.op = .index t x i) (ht : P.underlying t = some (.array n el)) (hi : P.info? el = some ti) (hz : tySz P el = some sz)
    (hzz : sz = (if sz.isSome then some ti.size else none)) (hx : cX x = some y) (hj : cX i = some j) (he : sop E H k own (.index n ti.size sz.isSome y j) = some e) (hob : e.ob) : Sound P o E H k e := by
  simp only [sop] at he
  split at he <;> first | (cases he; done) | skip
  rename_i cs kk m hs hm
  rw [← hzz] at he
  split at he <;> first | (cases he; done) | skip
  rename_i v hv
  injection he with he
  subst he
  refine ⟨OT.pure fun p μ M a w hk hS => ?_, sub_nil⟩
  obtain ⟨vs, e1, hr⟩ := Rp.agg_iff.1 (hk.get (by simp [ho, Op.operands]) hx hs)
  have e2 := Rp.int_iff.1 (hk.get (by simp [ho, Op.operands]) hj hm)
  obtain ⟨u, hu, hr'⟩ := part_ldv (P := P) (w := w) hz hv hob.2 hr
  refine ⟨u, ?_, hr'⟩
  have h1 := hob.1.1
  have h2 := hob.1.2
  simp [execOp, ho, Instr.index, run_underlying ht, e1, e2, asIntOf, h1, h2, run_size hi, hu]

/-! ### '==' -/
theorem cqS_rep {kd : Bool} {s t : SV} {b : Bool} (h : cqS kd s t = some b) {p : Nat → Prop} {μ : Nat → Nm} {M : Mem} {u v : Value} (hu : Rp p μ M s u) (hv : Rp p μ M t v) : cEq kd u v = some b := by
  unfold cqS at h
  split at h
  · rw [Rp.int_iff.1 hu, Rp.int_iff.1 hv]; exact h
  · rw [Rp.bool_iff.1 hu, Rp.bool_iff.1 hv]; exact h
  · cases h
theorem csqS_rep : ∀ {ks : List Bool} {ss ts : List SV} {b : Bool}, csqS ks ss ts = some b → ∀ {p : Nat → Prop} {μ : Nat → Nm} {M : Mem} {us vs : List Value}, Rps p μ M ss us → Rps p μ M ts vs → csEq ks us vs = some b
  | [], [], [], b, h, _, _, _, us, vs, hu, hv => by rw [Rps.nil_iff.1 hu, Rps.nil_iff.1 hv]; exact h
  | [], [], _ :: _, _, h, _, _, _, _, _, _, _ => by simp [csqS] at h
  | [], _ :: _, _, _, h, _, _, _, _, _, _, _ => by simp [csqS] at h
  | _ :: _, [], _, _, h, _, _, _, _, _, _, _ => by simp [csqS] at h
  | _ :: _, _ :: _, [], _, h, _, _, _, _, _, _, _ => by simp [csqS] at h
  | kd :: ks, s :: ss, t :: ts, b, h, p, μ, M, us, vs, hu, hv => by
    simp only [csqS] at h
    split at h
    · rename_i a b' h1 h2
      obtain ⟨u, us', rfl, hu1, hu2⟩ := Rps.cons_iff.1 hu
      obtain ⟨v, vs', rfl, hv1, hv2⟩ := Rps.cons_iff.1 hv
      simp only [csEq, cqS_rep h1 hu1 hv1, csqS_rep h2 hu2 hv2]
      exact h
    · cases h

theorem isEq_cases {op : BinOp} (h : isEq op = true) : op = .eql ∨ op = .neq := by
  cases op <;> simp [isEq] at h <;> simp

theorem s_eqv {op : BinOp} {t t' : TypeId} {x y : Operand} {x' y' : X} {ks : List Bool} (ho : o.op = .binOp op t x y t') (hop : isEq op = true) (ht : (∃ fs, P.underlying t = some (.struct fs)) ∨ ∃ n el, P.underlying t = some (.array n el)) (hks : plainEq P 10000 t = some ks)
    (hg : P.eqGuardType P.depth t = false) (hx : cX x = some x') (hy : cX y = some y') (he : sop E H k own (.eqv (isNeq op) ks x' y') = some e) : Sound P o E H k e := by
  simp only [sop] at he
  split at he <;> first | (cases he; done) | skip
  rename_i s s' h1 h2
  split at he <;> first | (cases he; done) | skip
  rename_i b hb
  injection he with he
  subst he
  refine ⟨OT.pure fun p μ M a w hk hS => ⟨.bool (bif isNeq op then !b else b), ?_, Rp.bool_iff.2 rfl⟩, sub_nil⟩
  obtain ⟨xs, e1, r1⟩ := Rp.agg_iff.1 (hk.get (by simp [ho, Op.operands]) hx h1)
  obtain ⟨ys, e2, r2⟩ := Rp.agg_iff.1 (hk.get (by simp [ho, Op.operands]) hy h2)
  have hc := csqS_rep hb r1 r2
  have heq := equalIn_run (P := P) (w := w) 10000 t ks _ _ b hks hc
  have hty : ∃ n, tySz P t = some (some n) := by
    rcases plainEq_size hks with ⟨t1, _⟩ | t1
    · exfalso
      obtain ⟨i, hi, _⟩ := plainEq_info hks
      rcases ht with ⟨fs, ht⟩ | ⟨n, el, ht⟩ <;> simp [tySz, ht, hi] at t1
    · exact ⟨_, t1⟩
  obtain ⟨n, hty⟩ := hty
  simp only [valOf, hty] at heq
  have hgu : (eqGuard op t x y (.agg xs) (.agg ys)).run P w = .ok () w := run_eqGuard_agg w op t x y xs ys hg
  rcases isEq_cases hop with rfl | rfl <;> simp [execOp, ho, e1, e2, hgu, binOp, Op.equal, Op.maxDepth, heq, isNeq]

theorem s_eqb {op : BinOp} {t t' : TypeId} {x y : Operand} {x' y' : X} (ho : o.op = .binOp op t x y t') (hop : isEq op = true) (ht : P.underlying t = some .bool)
    (hx : cX x = some x') (hy : cX y = some y') (he : sop E H k own (.eqb (isNeq op) x' y') = some e) : Sound P o E H k e := by
  simp only [sop] at he
  split at he <;> first | (cases he; done) | skip
  rename_i s s' h1 h2
  injection he with he
  subst he
  refine ⟨OT.pure fun p μ M a w hk hS => ⟨.bool (bif isNeq op then !(s == s') else s == s'), ?_, Rp.bool_iff.2 rfl⟩, sub_nil⟩
  have e1 := Rp.bool_iff.1 (hk.get (by simp [ho, Op.operands]) hx h1)
  have e2 := Rp.bool_iff.1 (hk.get (by simp [ho, Op.operands]) hy h2)
  have heq := run_equalIn_bool (P := P) w 9999 t s s' ht
  rcases isEq_cases hop with rfl | rfl <;> simp [execOp, ho, e1, e2, eqGuard_at_bool, binOp, Op.equal, Op.maxDepth, heq, isNeq]

theorem s_eqnil {op : BinOp} {t t' : TypeId} {x y : Operand} {x' : X} {kd : Nat} (ho : o.op = .binOp op t x y t') (hop : isEq op = true) (hy : nilKd P t y = some kd)
    (hx : cX x = some x') (he : sop E H k own (.eqnil (isNeq op) kd x') = some e) (hob : e.ob) : Sound P o E H k e := by
  have finF : ∀ (F : Hp) (hF : ∀ n ob, lk F n = some ob → H n = some ob) (b : Bool) (pp : Prop), (∀ (p : Nat → Prop) (μ : Nat → Nm) (M : Mem) (a : Act) (w : World), Known E o.op.operands p μ M a → SatF p μ M (lk F) w → (∀ d, (Op.equalIn (d + 1) t (a.eval x) (a.eval y)).run P w = .ok b w) ∧
        (∀ kd n, a.eval x ≠ .int kd n) ∧ (∀ q, a.eval x ≠ .string q) ∧ (∀ q n, a.eval x ≠ .float q n) ∧ (∀ q n m, a.eval x ≠ .complex q n m) ∧ eqGuard op t x y (a.eval x) (a.eval y) = Pure.pure ()) →
      Sound P o E H k ⟨.d (.bool (bif isNeq op then !b else b)), F, F, 0, pp⟩ := by
    intro F hF b pp h
    refine ⟨OT.pure fun p μ M a w hk hS => ⟨.bool (bif isNeq op then !b else b), ?_, Rp.bool_iff.2 rfl⟩, hF⟩
    obtain ⟨h0, n1, n2, n3, n4, n5⟩ := h p μ M a w hk hS
    have h1 := h0 9999
    clear h0
    have hb : (binOp op t (a.eval x) (a.eval y)).run P w = .ok (.bool (bif isNeq op then !b else b)) w := by
      generalize a.eval x = u at *
      generalize a.eval y = v at *
      rcases isEq_cases hop with rfl | rfl <;> cases u <;> first
        | exact absurd rfl (n1 _ _)
        | exact absurd rfl (n2 _)
        | exact absurd rfl (n3 _ _)
        | exact absurd rfl (n4 _ _ _)
        | (cases v <;> simp [binOp, Op.equal, Op.maxDepth, h1, isNeq])
    simp only [execOp, ho, Sem.run_bind, n5, Sem.run_pure, Result.andThen_ok, hb]
  have fin := finF [] sub_nil
  unfold nilKd at hy
  simp only [sop] at he
  split at hy <;> first | (cases hy; done) | skip
  all_goals rename_i hty
  all_goals injection hy with hy
  all_goals subst hy
  all_goals split at he <;> first | (cases he; done) | skip
  all_goals first | contradiction | skip
  all_goals first | (rename_i hs; injection he with he; subst he) | skip
  · have := fin true True fun p μ M a w hk hS => by
      have e1 : a.eval x = .pointer none := by simpa [RepD] using Rp.d_iff.1 (hk.get (by simp [ho, Op.operands]) hx hs)
      refine ⟨fun d => by rw [e1]; simp [Act.eval, Op.equalIn, run_underlying hty], ?_⟩
      rw [e1]
      simp [eqGuard_at_pointer]
    cases hn : isNeq op <;> simpa [hn] using this
  · rename_i n off _
    have := fin false True fun p μ M a w hk hS => by
      have e1 : a.eval x = .pointer (some ⟨(μ n).blk, off, none⟩) := (hk.get (by simp [ho, Op.operands]) hx hs).ptr_of
      refine ⟨fun d => by rw [e1]; simp [Act.eval, Op.equalIn, run_underlying hty], ?_⟩
      rw [e1]
      simp [eqGuard_at_pointer]
    cases hn : isNeq op <;> simpa [hn] using this
  · have := fin false True fun p μ M a w hk hS => by
      obtain ⟨b, q, e1⟩ : ∃ b q, a.eval x = .pointer (some ⟨b, q, none⟩) := by
        have := (hk.get (by simp [ho, Op.operands]) hx hs).rep
        simp only [Rep] at this
        obtain ⟨b, q, e1, _⟩ := this
        exact ⟨b, _, e1⟩
      refine ⟨fun d => by rw [e1]; simp [Act.eval, Op.equalIn, run_underlying hty], ?_⟩
      rw [e1]
      simp [eqGuard_at_pointer]
    cases hn : isNeq op <;> simpa [hn] using this
  · have := fin true True fun p μ M a w hk hS => by
      have e1 : a.eval x = .map none := by simpa [RepD] using Rp.d_iff.1 (hk.get (by simp [ho, Op.operands]) hx hs)
      refine ⟨fun d => by rw [e1]; simp [Act.eval, Op.equalIn, run_underlying hty], ?_⟩
      rw [e1]
      simp [eqGuard_at_map]
    cases hn : isNeq op <;> simpa [hn] using this
  · rename_i n _ hs
    split at he <;> first | (cases he; done) | skip
    · rename_i es c hH
      injection he with he
      subst he
      have := finF [(n, .map es c)] (sub_one hH) false True fun p μ M a w hk hS => by
        have hl : (μ n).live = true := hS.one.2.1.1
        have e1 : a.eval x = .map (some (μ n).blk) := by simpa [Rep, hl] using (hk.get (by simp [ho, Op.operands]) hx hs).rep
        refine ⟨fun d => by rw [e1]; simp [Act.eval, Op.equalIn, run_underlying hty], ?_⟩
        rw [e1]
        simp [eqGuard_at_map]
      cases hn : isNeq op <;> simpa [hn] using this
    · rename_i hH
      injection he with he
      subst he
      have := finF [(n, .nomap)] (sub_one hH) true True fun p μ M a w hk hS => by
        have hl : (μ n).live = false := hS.one.2.1
        have e1 : a.eval x = .map none := by simpa [Rep, hl] using (hk.get (by simp [ho, Op.operands]) hx hs).rep
        refine ⟨fun d => by rw [e1]; simp [Act.eval, Op.equalIn, run_underlying hty], ?_⟩
        rw [e1]
        simp [eqGuard_at_map]
      cases hn : isNeq op <;> simpa [hn] using this
  · have := fin true True fun p μ M a w hk hS => by
      have e1 : a.eval x = .nilFunc := by simpa [RepD] using Rp.d_iff.1 (hk.get (by simp [ho, Op.operands]) hx hs)
      refine ⟨fun d => by rw [e1]; simp [Act.eval, Op.equalIn, run_underlying hty], ?_⟩
      rw [e1]
      simp [eqGuard_at_nilFunc]
    cases hn : isNeq op <;> simpa [hn] using this
  · have := fin false True fun p μ M a w hk hS => by
      obtain ⟨as, cs, e1, _⟩ := Rp.fn_iff.1 (hk.get (by simp [ho, Op.operands]) hx hs)
      refine ⟨fun d => by rw [e1]; simp [Act.eval, Op.equalIn, run_underlying hty], ?_⟩
      rw [e1]
      simp [eqGuard_at_func]
    cases hn : isNeq op <;> simpa [hn] using this
  · have := fin true True fun p μ M a w hk hS => by
      have e1 : a.eval x = .slice none 0 0 := by simpa [RepD] using Rp.d_iff.1 (hk.get (by simp [ho, Op.operands]) hx hs)
      refine ⟨fun d => by rw [e1]; simp [Act.eval, Op.equalIn, run_underlying hty], ?_⟩
      rw [e1]
      simp [eqGuard_at_slice]
    cases hn : isNeq op <;> simpa [hn] using this
  · rename_i n len _
    have := fin false (len ≠ 0) fun p μ M a w hk hS => by
      obtain ⟨_, e1⟩ | ⟨_, h, _⟩ := (hk.get (by simp [ho, Op.operands]) hx hs).gs_of
      rotate_left
      · exact absurd h hob
      refine ⟨fun d => by rw [e1]; simp [Act.eval, Op.equalIn, run_underlying hty], ?_⟩
      rw [e1]
      simp [eqGuard_at_slice]
    cases hn : isNeq op <;> simpa [hn] using this
end
end Go.Sl

/-
  The machine does what 'sop' says: third part: stores, literals, slices of slices.
-/
set_option linter.unusedSimpArgs false
set_option linter.unusedSectionVars false
set_option linter.unusedVariables false
namespace Go.Sl
open Go.RowKit

section
variable {P : Program} {o : Oper} {E : Nat → Option SV} {H : Nat → Option Ob} {k : Nat} {own : Bool} {e : Eff}

theorem splV_take (vs us : List Value) (o n : Nat) (h : o + us.length ≤ n) (hn : n ≤ vs.length) : (splV vs o us).take n = splV (vs.take n) o us := by
  have h0 : o ≤ vs.length := by omega
  unfold splV
  apply List.ext_getElem?
  intro i
  simp only [List.getElem?_take, List.getElem?_append, List.length_append, List.length_take, List.getElem?_drop, Nat.min_eq_left h0, Nat.min_eq_left (show o ≤ min n vs.length by omega)]
  by_cases h1 : i < n
  · simp only [h1, if_true]
    by_cases h2 : i < o
    · simp [h2, show i < o + us.length by omega]
    · by_cases h3 : i < o + us.length
      · simp [h2, h3]
      · simp [h3, show o + us.length + (i - (o + us.length)) < n by omega]
  · simp only [h1, if_false]
    simp [show ¬ i < o + us.length by omega, show ¬ o + us.length + (i - (o + us.length)) < n by omega]

theorem run_storeVar {w : World} {t ty : TypeId} {i : TypeInfo} {b off : Nat} {vs : Array Value} {v : Value} (hi : P.info? t = some i) (hb : w.heap[b]? = some (.cells vs ty (0, 0))) (hs : v.cells.size = i.size)
    (h1 : ∀ u ∈ v.cells.toList, u.oneCell' = true) (hl : off + i.size ≤ vs.size) :
    ∃ w', (storeVar t ⟨b, off, none⟩ v).run P w = .ok () w' ∧ w'.heap[b]? = some (.cells (splV vs.toList off v.cells.toList).toArray ty (0, 0)) ∧ (∀ c, c ≠ b → w'.heap[c]? = w.heap[c]?) ∧
      w'.heap.size = w.heap.size ∧ w'.os = w.os ∧ Tape w w' ∧ w'.output = w.output := by
  obtain ⟨w', hr, h2, h3⟩ := run_storeCells (P := P) v.cells.toList vs w off 0 hb (by simp [hs]; omega) h1
  refine ⟨w', ?_, by simpa using h2, h3⟩
  simp [storeVar, run_size hi, hs, hr]

theorem s_store {t : TypeId} {x v : Operand} {x' v' : X} {i : TypeInfo} (ho : o.op = .store t x v) (hi : P.info? t = some i) (hx : cX x = some x') (hv : cX v = some v')
    (he : sop E H k own (.store i.size x' v') = some e) (hob : e.ob) : Sound P o E H k e := by
  simp only [sop] at he
  split at he <;> first | (cases he; done) | skip
  rename_i n off s h1 h2
  split at he <;> first | (cases he; done) | skip
  rename_i hone
  split at he <;> first | (cases he; done) | skip
  · rename_i ty cs hH
    injection he with he
    subst he
    obtain ⟨hob1, hob2⟩ := hob
    refine ⟨OT.write fun p μ M a w hk hp hob => ?_, sub_one hH⟩
    obtain ⟨h0, vs, hb, hr⟩ := hob
    have e1 := (hk.get (by simp [ho, Op.operands]) hx h1).ptr_of
    obtain ⟨c1, c2⟩ := Rp.cells hone (hk.get (by simp [ho, Op.operands]) hv h2)
    have hvs : vs.size = cs.length := by simpa using hr.length
    have hsz : (a.eval v).cells.size = i.size := by have := c1.length; simp at this; omega
    obtain ⟨w', hr', q1, q2, q3, q4, q5, q6⟩ := run_storeVar (P := P) (v := a.eval v) hi hb hsz c2 (off := off) (by omega)
    refine ⟨undef, w', .inr ⟨?_, rfl⟩, Rp.any, ⟨h0, _, q1, ?_⟩, fun b hb => q2 b (hb h0), q3, q4, q5, q6⟩
    · simp [execOp, ho, Instr.storeAt, e1, Instr.sureAddr, hr']
    · simpa using Rps.spl hr c1 (by omega)
  · rename_i el z l cs hH
    injection he with he
    subst he
    obtain ⟨hob1, hob2, hob3⟩ := hob
    refine ⟨OT.write fun p μ M a w hk hp hob => ?_, sub_one hH⟩
    rcases hob with ⟨_, _, rfl⟩ | hob
    · simp at hob2; omega
    obtain ⟨h0, vs, hb, hl1, hl2, hl3, hl4, hr⟩ := hob
    have e1 := (hk.get (by simp [ho, Op.operands]) hx h1).ptr_of
    obtain ⟨c1, c2⟩ := Rp.cells hone (hk.get (by simp [ho, Op.operands]) hv h2)
    have hle : l * z ≤ vs.size := by rw [hl4]; exact Nat.mul_le_mul_right z hl2
    have hsz : (a.eval v).cells.size = i.size := by have := c1.length; simp at this; omega
    obtain ⟨w', hr', q1, q2, q3, q4, q5, q6⟩ := run_storeVar (P := P) (v := a.eval v) hi hb hsz c2 (off := off) (by omega)
    refine ⟨undef, w', .inr ⟨?_, rfl⟩, Rp.any, .inr ⟨h0, _, q1, ?_, hl2, hl3, ?_, ?_⟩, fun b hb => q2 b (hb h0), q3, q4, q5, q6⟩
    · simp [execOp, ho, Instr.storeAt, e1, Instr.sureAddr, hr']
    · rw [spl_eq (by omega)]
      simp
      omega
    · simp [splV]
      omega
    · have hcl : (a.eval v).cells.toList.length = i.size := by simpa using hsz
      have := Rps.spl (o := off) hr c1 (by omega)
      rw [← splV_take _ _ _ _ (by omega) (by simpa using hle)] at this
      simpa using this

/-! ### literals -/
theorem foldl_splV (us : List Value) : ∀ (j off : Nat) (vs : Array Value), off + j + us.length ≤ vs.size → ((us.zipIdx j).foldl (fun cs (x : Value × Nat) => cs.setIfInBounds (off + x.2) x.1) vs).toList = splV vs.toList (off + j) us := by
  induction us with
  | nil => intro j off vs _; simp [splV]
  | cons u us ih =>
    intro j off vs h
    simp only [List.length_cons] at h
    simp only [List.zipIdx_cons, List.foldl_cons]
    rw [ih (j + 1) off _ (by simp; omega), Array.toList_setIfInBounds, show off + (j + 1) = off + j + 1 by omega]
    exact splV_step vs.toList (off + j) u us (by simp; omega)

theorem fill_rep (pl : Nat → Option (Nat × Nat)) {p : Nat → Prop} {μ : Nat → Nm} {M : Mem} {a : Act} {xs : Array Operand} (hk : Known E xs p μ M a) : ∀ (parts : List (Nat × Operand)) (qs : List (Nat × Nat × X)) (ps : List (Nat × Nat × SV)) (cells cs : List SV) (ob : Prop) (vs : Array Value),
    cParts pl parts = some qs → evp E qs = some ps → bldS cells ps = some (cs, ob) → ob → (∀ x ∈ parts, x.2 ∈ xs) → Rps p μ M cells vs.toList →
    ∃ vs' : Array Value, Instr.fill pl vs (parts.map fun (i, x) => (i, a.eval x)) = some vs' ∧ Rps p μ M cs vs'.toList
  | [], qs, ps, cells, cs, ob, vs, h1, h2, h3, hob, _, hr => by
    simp [cParts] at h1; subst h1
    simp [evp] at h2; subst h2
    simp [bldS] at h3; obtain ⟨rfl, _⟩ := h3
    exact ⟨vs, rfl, hr⟩
  | (i, x) :: parts, qs, ps, cells, cs, ob, vs, h1, h2, h3, hob, hin, hr => by
    simp only [cParts] at h1
    split at h1 <;> first | (cases h1; done) | skip
    rename_i off n y qs' hpl hy hqs
    injection h1 with h1; subst h1
    simp only [evp] at h2
    split at h2 <;> first | (cases h2; done) | skip
    rename_i s ss hs hss
    injection h2 with h2; subst h2
    simp only [bldS] at h3
    split at h3 <;> first | (cases h3; done) | skip
    rename_i hone
    split at h3 <;> first | (cases h3; done) | skip
    rename_i cs' ob' hb
    injection h3 with h3
    injection h3 with h3 h3'
    subst h3; subst h3'
    obtain ⟨hob1, hob2, hob3⟩ := hob
    obtain ⟨c1, c2⟩ := Rp.cells hone (hk.get (hin (i, x) (by simp)) hy hs)
    have hvl := hr.length
    have hcl := c1.length
    simp only [Array.length_toList] at hvl hcl
    have hsp := Rps.spl (o := off) hr c1 (by omega)
    have hf := foldl_splV (a.eval x).cells.toList 0 off vs (by simp; omega)
    simp only [Nat.add_zero] at hf
    rw [← hf] at hsp
    obtain ⟨vs', r1, r2⟩ := fill_rep pl hk parts qs' ss _ _ ob' _ hqs hss hb hob3 (fun y hy => hin y (by simp [hy])) hsp
    refine ⟨vs', ?_, r2⟩
    simp only [List.map_cons, Instr.fill, hpl]
    rw [if_neg (by simp; omega)]
    rw [← Array.foldl_toList, Array.toList_zipIdx]
    exact r1


theorem run_places {w : World} : ∀ (fs : List Field), (fs.all fun f => (P.info? f.type).isSome) = true →
    (fs.mapM (m := Sem) fun f => do pure (f.offset, ← sizeOf f.type)).run P w = .ok (fs.map fun f => (f.offset, P.cellsOf f.type)) w
  | [], _ => by simp
  | f :: fs, h => by
    simp only [List.all_cons, Bool.and_eq_true] at h
    obtain ⟨i, hi⟩ := Option.isSome_iff_exists.1 h.1
    have ih := run_places (w := w) fs h.2
    simp only [List.mapM_cons, Sem.run_bind, run_size hi, Result.andThen_ok, Sem.run_pure, ih, List.map_cons, Program.cellsOf, hi, Option.map_some, Option.getD_some]

theorem fill_congr {pl pl' : Nat → Option (Nat × Nat)} : ∀ (parts : List (Nat × Value)) (vs : Array Value), (∀ i, pl i = pl' i) → Instr.fill pl vs parts = Instr.fill pl' vs parts
  | parts, vs, h => by rw [show pl = pl' from funext h]

theorem s_bldS {t : TypeId} {parts : Array (Nat × Operand)} {fs : Array Field} {z : List SV} {qs : List (Nat × Nat × X)} (ho : o.op = .build t parts) (ht : P.underlying t = some (.struct fs)) (hz : zCells P t = some z)
    (hfs : fs.all (fun f => (P.info? f.type).isSome) = true) (hq : cParts (fieldPl P fs) parts.toList = some qs) (he : sop E H k own (.bld z qs) = some e) (hob : e.ob) : Sound P o E H k e := by
  simp only [sop] at he
  split at he <;> first | (cases he; done) | skip
  rename_i ps hps
  split at he <;> first | (cases he; done) | skip
  rename_i cs ob hb
  injection he with he
  subst he
  refine ⟨OT.pure fun p μ M a w hk hS => ?_, sub_nil⟩
  obtain ⟨v, hv, hr, _⟩ := zCells_rep hz (p := p) (μ := μ) (M := M)
  obtain ⟨vs', r1, r2⟩ := fill_rep (fieldPl P fs) hk parts.toList qs ps z cs ob v.cells hq hps hb hob (fun x hx => by
    rw [ho]; simp only [Op.operands, List.mem_toArray, List.mem_map]; exact ⟨x, by simpa using hx, rfl⟩) hr
  refine ⟨.agg vs', ?_, Rp.agg_iff.2 ⟨_, rfl, r2⟩⟩
  have hpl : (fs.mapM (m := Sem) fun f => do pure (f.offset, ← sizeOf f.type)).run P w = .ok (fs.map fun f => (f.offset, P.cellsOf f.type)) w := by
    rw [← Array.toArray_toList (xs := fs), List.mapM_toArray]
    rw [Sem.run_map, run_places fs.toList (by simpa using hfs)]
    simp only [Result.andThen_ok]
    congr 1
    apply Array.ext'
    simp
  have hpe : ∀ i, (fs.map fun f => (f.offset, P.cellsOf f.type))[i]? = fieldPl P fs i := by
    intro i
    unfold fieldPl
    rw [Array.getElem?_map]
    cases hi : fs[i]? with
    | none => rfl
    | some f =>
      have hf : (P.info? f.type).isSome = true := by
        have := Array.all_eq_true_iff_forall_mem.1 hfs f (Array.mem_of_getElem? hi)
        exact this
      obtain ⟨j, hj⟩ := Option.isSome_iff_exists.1 hf
      simp [hj, Program.cellsOf]
  have hfill : Instr.fill ((fs.map fun f => (f.offset, P.cellsOf f.type))[·]?) v.cells (parts.map fun (i, x) => (i, a.eval x)).toList = some vs' := by
    rw [fill_congr _ _ hpe]
    simpa using r1
  simp only [execOp, ho, Instr.build, Sem.run_bind, hv w, Result.andThen_ok, run_underlying ht, hpl, hfill, Sem.run_pure]

theorem s_bldA {t el : TypeId} {n : Nat} {parts : Array (Nat × Operand)} {ti : TypeInfo} {z : List SV} {qs : List (Nat × Nat × X)} (ho : o.op = .build t parts) (ht : P.underlying t = some (.array n el)) (hz : zCells P t = some z)
    (hi : P.info? el = some ti) (hq : cParts (fun i => some (i * ti.size, ti.size)) parts.toList = some qs) (he : sop E H k own (.bld z qs) = some e) (hob : e.ob) : Sound P o E H k e := by
  simp only [sop] at he
  split at he <;> first | (cases he; done) | skip
  rename_i ps hps
  split at he <;> first | (cases he; done) | skip
  rename_i cs ob hb
  injection he with he
  subst he
  refine ⟨OT.pure fun p μ M a w hk hS => ?_, sub_nil⟩
  obtain ⟨v, hv, hr, _⟩ := zCells_rep hz (p := p) (μ := μ) (M := M)
  obtain ⟨vs', r1, r2⟩ := fill_rep _ hk parts.toList qs ps z cs ob v.cells hq hps hb hob (fun x hx => by
    rw [ho]; simp only [Op.operands, List.mem_toArray, List.mem_map]; exact ⟨x, by simpa using hx, rfl⟩) hr
  refine ⟨.agg vs', ?_, Rp.agg_iff.2 ⟨_, rfl, r2⟩⟩
  have hfill : Instr.fill (fun i => some (i * ti.size, ti.size)) v.cells (parts.map fun (i, x) => (i, a.eval x)).toList = some vs' := by simpa using r1
  simp only [execOp, ho, Instr.build, Sem.run_bind, hv w, Result.andThen_ok, run_underlying ht, run_size hi, hfill, Sem.run_pure]
end
end Go.Sl
