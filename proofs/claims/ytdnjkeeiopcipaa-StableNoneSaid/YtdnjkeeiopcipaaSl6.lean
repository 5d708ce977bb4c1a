/-
  What an operation gives (shadow), read off the program's own operation; and that the machine does so: all but append, maps, calls.
-/
import Derived.Test.YtdnjkeeiopcipaaSl5
set_option linter.unusedSimpArgs false
set_option linter.unusedSectionVars false
set_option linter.unusedVariables false
namespace Go.Sl
open Go.RowKit

def cqS : Bool → SV → SV → Option Bool
  | true, .d (.int k a), .d (.int k' b) => if k = k' then some (a == b) else none
  | false, .d (.bool a), .d (.bool b) => some (a == b)
  | _, _, _ => none
def csqS : List Bool → List SV → List SV → Option Bool
  | [], [], [] => some true
  | k :: ks, x :: xs, y :: ys => match cqS k x y, csqS ks xs ys with
    | some a, some b => some (a && b)
    | _, _ => none
  | _, _, _ => none

/-- Whole-number operations. -/
def binV (op : BinOp) (k : IntKind) (a b : Int) : Option (SV × Prop) :=
  match op with
  | .add => some (.d (.int k (k.wrap (a + b))), True)
  | .sub => some (.d (.int k (k.wrap (a - b))), True)
  | .mul => some (.d (.int k (k.wrap (a * b))), True)
  | .quo => some (.d (.int k (k.wrap (a.tdiv b))), b ≠ 0)
  | .rem => some (.d (.int k (a.tmod b)), b ≠ 0)
  | .and => some (.d (.int k (bits .and k a b)), True)
  | .or => some (.d (.int k (bits .or k a b)), True)
  | .xor => some (.d (.int k (bits .xor k a b)), True)
  | .andNot => some (.d (.int k (bits .andNot k a b)), True)
  | .shl => some (.d (.int k (k.wrap (a * 2 ^ b.toNat))), 0 ≤ b ∧ b ≤ k.bits)
  | .shr => some (.d (.int k (a / 2 ^ b.toNat)), 0 ≤ b ∧ b ≤ k.bits)
  | .eql => some (.d (.bool (a == b)), True)
  | .neq => some (.d (.bool (a != b)), True)
  | .lss => some (.d (.bool (decide (a < b))), True)
  | .leq => some (.d (.bool (decide (a ≤ b))), True)
  | .gtr => some (.d (.bool (decide (a > b))), True)
  | .geq => some (.d (.bool (decide (a ≥ b))), True)
def binK (op : BinOp) (k k' : IntKind) : Bool := k == k' || op matches .shl || op matches .shr

def bldS (cells : List SV) : List (Nat × Nat × SV) → Option (List SV × Prop)
  | [] => some (cells, True)
  | (off, n, s) :: r => if s.cells.all SV.isOne then match bldS (spl cells off s.cells) r with
      | some (cs, ob) => some (cs, s.cells.length = n ∧ off + n ≤ cells.length ∧ ob)
      | none => none
    else none
def evp (E : Nat → Option SV) : List (Nat × Nat × X) → Option (List (Nat × Nat × SV))
  | [] => some []
  | (o, n, x) :: r => match ev E x, evp E r with
    | some s, some ss => some ((o, n, s) :: ss)
    | _, _ => none

def datas : List SV → Option (List DV)
  | [] => some []
  | .d x :: r => match datas r with
    | some xs => some (x :: xs)
    | none => none
  | _ :: _ => none

/-- A pointer moved on. -/
def mvp (n : Nat) : SV → Option SV
  | .ptr m o => some (.ptr m (o + n))
  | .vp cs i => some (.vp cs (i + n))
  | _ => none

/-- The row that an append goes to: how long it is, its cells, the object; what must be so. -/
def appB (H : Nat → Option Ob) (e sz : Nat) : Option SV → Option (Nat × List SV × Hp × (Nat → Prop))
  | some (.d .nils) => some (0, [], [], fun _ => True)
  | some (.gs n len) => match H n with
    | some (.arr e' sz' len' cs) => some (len, cs, [(n, .arr e' sz' len' cs)], fun _ => e' = e ∧ sz' = sz ∧ len' = len)
    | _ => none
  | _ => none
/-- What an append appends. -/
def appX (H : Nat → Option Ob) : Option SV → Option (Nat × List SV × Hp × Prop)
  | some (.d .nils) => some (0, [], [], True)
  | some (.d (.sl m xs)) => some (m, xs.map .d, [], True)
  | some (.gs n m) => match H n with
    | some (.arr e' sz' len' cs) => some (m, cs, [(n, .arr e' sz' len' cs)], len' = m)
    | _ => none
  | _ => none

def isAggS : SV → Bool
  | .agg _ => true
  | _ => false
def keyOk (ks : List Bool) (agg : Bool) (key : SV) : Bool := isAggS key == agg && (csqS ks key.cells key.cells).isSome
/-- Where a key stands among a map's entries. -/
def findS (ks : List Bool) (agg : Bool) (key : SV) : List (Nat × SV × SV) → Nat → Option (Option Nat)
  | [], _ => some none
  | e :: r, i => if keyOk ks agg e.2.1 then match csqS ks key.cells e.2.1.cells with
      | some true => some (some i)
      | some false => findS ks agg key r (i + 1)
      | none => none
    else none
def msetS (es : List (Nat × SV × SV)) (c : Nat) (key v : SV) : Option Nat → Ob
  | some i => .map (es.modify i fun e => (e.1, e.2.1, v)) c
  | none => .map (es ++ [(c, key, v)]) (c + 1)
def mdelS (es : List (Nat × SV × SV)) (c : Nat) : Option Nat → Ob
  | some i => .map (es.eraseIdx i) c
  | none => .map es c
def lookS (es : List (Nat × SV × SV)) (z : SV) : Option Nat → SV
  | some i => match es[i]? with
    | some e => e.2.2
    | none => z
  | none => z
def lookOk (ok : Bool) (v : SV) (b : Bool) : SV := if ok then .tup [v, .d (.bool b)] else v

def sop (E : Nat → Option SV) (H : Nat → Option Ob) (k : Nat) (own : Bool) : SO → Option Eff
  | .mv x => match ev E x with
    | some s => some ⟨s, [], [], 0, True⟩
    | none => none
  | .pick c a b => match ev E c with
    | some (.d (.bool true)) => match ev E a with
      | some s => some ⟨s, [], [], 0, True⟩
      | none => none
    | some (.d (.bool false)) => match ev E b with
      | some s => some ⟨s, [], [], 0, True⟩
      | none => none
    | _ => none
  | .alloc t z => some ⟨.ptr k 0, [], [(k, .box t z)], 1, True⟩
  | .box t x => match ev E x with
    | some s => if s.cells.all SV.isOne then some ⟨.ptr k 0, [], [(k, .box t s.cells)], 1, True⟩ else none
    | none => none
  | .load sz x => match ev E x with
    | some s => match cellsAt H s with
      | some (cs, off, F) => match ldv cs off sz with
        | some v => some ⟨v, F, F, 0, ldo cs off sz⟩
        | none => none
      | none => none
    | none => none
  | .store sz x v => match ev E x, ev E v with
    | some (.ptr n off), some s => if s.cells.all SV.isOne then match H n with
        | some (.box t cs) => some ⟨.any, [(n, .box t cs)], [(n, .box t (spl cs off s.cells))], 0, s.cells.length = sz ∧ off + sz ≤ cs.length⟩
        | some (.arr e z l cs) => some ⟨.any, [(n, .arr e z l cs)], [(n, .arr e z l (spl cs off s.cells))], 0, s.cells.length = sz ∧ off + sz ≤ cs.length ∧ 0 < sz⟩
        | _ => none
      else none
    | _, _ => none
  | .fld off x => match ev E x with
    | some s => match mvp off s with
      | some v => some ⟨v, [], [], 0, True⟩
      | none => none
    | none => none
  | .idxA len sz x i => match ev E x, ev E i with
    | some s, some (.d (.int _ m)) => match mvp (m.toNat * sz) s with
      | some v => some ⟨v, [], [], 0, 0 ≤ m ∧ m < (len : Int)⟩
      | none => none
    | _, _ => none
  | .idxS sz x i => match ev E x, ev E i with
    | some (.d (.sl n cs)), some (.d (.int _ m)) => some ⟨.vp cs (m.toNat * sz), [], [], 0, 0 ≤ m ∧ m < (n : Int)⟩
    | some (.gs n len), some (.d (.int _ m)) => some ⟨.ptr n (m.toNat * sz), [], [], 0, 0 ≤ m ∧ m < (len : Int)⟩
    | some (.bs n off len), some (.d (.int _ m)) => some ⟨.ptr n (off + m.toNat * sz), [], [], 0, 0 ≤ m ∧ m < (len : Int)⟩
    | _, _ => none
  | .field off sz x => match ev E x with
    | some (.agg cs) => match ldv cs off sz with
      | some v => some ⟨v, [], [], 0, ldo cs off sz⟩
      | none => none
    | _ => none
  | .index len sz agg x i => match ev E x, ev E i with
    | some (.agg cs), some (.d (.int _ m)) => match ldv cs (m.toNat * sz) (if agg then some sz else none) with
      | some v => some ⟨v, [], [], 0, (0 ≤ m ∧ m < (len : Int)) ∧ ldo cs (m.toNat * sz) (if agg then some sz else none)⟩
      | none => none
    | _, _ => none
  | .bin op x y => match ev E x, ev E y with
    | some (.d (.int k a)), some (.d (.int k' b)) => if binK op k k' then match binV op k a b with
        | some (v, ob) => some ⟨v, [], [], 0, ob⟩
        | none => none
      else none
    | _, _ => none
  | .eqv neg ks x y => match ev E x, ev E y with
    | some (.agg s), some (.agg s') => match csqS ks s s' with
      | some b => some ⟨.d (.bool (bif neg then !b else b)), [], [], 0, True⟩
      | none => none
    | _, _ => none
  | .eqb neg x y => match ev E x, ev E y with
    | some (.d (.bool s)), some (.d (.bool s')) => some ⟨.d (.bool (bif neg then !(s == s') else s == s')), [], [], 0, True⟩
    | _, _ => none
  | .eqnil neg kd x => match kd, ev E x with
    | 0, some (.d .nilp) | 1, some (.d .nilm) | 2, some (.d .nilf) | 3, some (.d .nils) => some ⟨.d (.bool !neg), [], [], 0, True⟩
    | 0, some (.ptr _ _) | 2, some (.fn _ _ _) => some ⟨.d (.bool neg), [], [], 0, True⟩
    | 1, some (.mp n) => match H n with
      | some (.map es c) => some ⟨.d (.bool neg), [(n, .map es c)], [(n, .map es c)], 0, True⟩
      | some .nomap => some ⟨.d (.bool !neg), [(n, .nomap)], [(n, .nomap)], 0, True⟩
      | _ => none
    | 0, some (.vp _ _) => some ⟨.d (.bool neg), [], [], 0, True⟩
    | 3, some (.gs _ n) => some ⟨.d (.bool neg), [], [], 0, n ≠ 0⟩
    | _, _ => none
  | .not x => match ev E x with
    | some (.d (.bool b)) => some ⟨.d (.bool !b), [], [], 0, True⟩
    | _ => none
  | .conv k x => match ev E x with
    | some (.d (.int _ n)) => some ⟨.d (.int k (k.wrap n)), [], [], 0, True⟩
    | _ => none
  | .ext i x => match ev E x with
    | some (.tup cs) => match cs[i]? with
      | some v => some ⟨v, [], [], 0, True⟩
      | none => none
    | _ => none
  | .nilc x => match ev E x with
    | some (.ptr n o) => some ⟨.ptr n o, [], [], 0, True⟩
    | some (.vp cs i) => some ⟨.vp cs i, [], [], 0, True⟩
    | _ => none
  | .bld z parts => match evp E parts with
    | some ps => match bldS z ps with
      | some (cs, ob) => some ⟨.agg cs, [], [], 0, ob⟩
      | none => none
    | none => none
  | .bsl e sz len z parts => match evp E parts with
    | some ps => match bldS z ps with
      | some (cs, ob) => if cs.all SV.isOne then
          if own || len == 0 then some ⟨.gs k len, [], [(k, .arr e sz len cs)], 1, ob⟩
          else match datas cs with
            | some ds => some ⟨.d (.sl len ds), [], [], 0, ob⟩
            | none => some ⟨.gs k len, [], [(k, .arr e sz len cs)], 1, ob⟩
        else none
      | none => none
    | none => none
  | .slc sz x lo hi => match ev E x with
    | some (.d (.sl n cs)) => match (match lo with | some l => ev E l | none => some (.d (.int .i64 0))), (match hi with | some h => ev E h | none => some (.d (.int .i64 n))) with
      | some (.d (.int _ l)), some (.d (.int _ h)) => some ⟨.d (.sl (h.toNat - l.toNat) ((cs.drop (l.toNat * sz)).take ((h.toNat - l.toNat) * sz))), [], [], 0, 0 ≤ l ∧ l ≤ h ∧ h ≤ (n : Int) ∧ cs.length = n * sz⟩
      | _, _ => none
    | some (.d .nils) => match (match lo with | some l => ev E l | none => some (.d (.int .i64 0))), (match hi with | some h => ev E h | none => some (.d (.int .i64 0))) with
      | some (.d (.int _ l)), some (.d (.int _ h)) => some ⟨.d .nils, [], [], 0, l = 0 ∧ h = 0⟩
      | _, _ => none
    | _ => none
  | .slcA n sz x lo hi => match ev E x, (match lo with | some l => ev E l | none => some (.d (.int .i64 0))), (match hi with | some h => ev E h | none => some (.d (.int .i64 n))) with
    | some (.ptr m off), some (.d (.int _ l)), some (.d (.int _ h)) => some ⟨.bs m (off + l.toNat * sz) (h.toNat - l.toNat), [], [], 0, 0 ≤ l ∧ l ≤ h ∧ h ≤ (n : Int)⟩
    | _, _, _ => none
  | .neg x => match ev E x with
    | some (.d (.int k n)) => some ⟨.d (.int k (k.wrap (-n))), [], [], 0, True⟩
    | _ => none
  | .len x => match ev E x with
    | some (.d (.sl n _)) => some ⟨.d (.int .i64 n), [], [], 0, True⟩
    | some (.d .nils) => some ⟨.d (.int .i64 0), [], [], 0, True⟩
    | some (.gs _ n) => some ⟨.d (.int .i64 n), [], [], 0, True⟩
    | some (.bs _ _ n) => some ⟨.d (.int .i64 n), [], [], 0, True⟩
    | _ => none
  | .mlen x => match ev E x with
    | some (.d .nilm) => some ⟨.d (.int .i64 0), [], [], 0, True⟩
    | some (.mp n) => match H n with
      | some (.map es c) => some ⟨.d (.int .i64 es.length), [(n, .map es c)], [(n, .map es c)], 0, True⟩
      | some .nomap => some ⟨.d (.int .i64 0), [(n, .nomap)], [(n, .nomap)], 0, True⟩
      | _ => none
    | _ => none
  | .look ks agg z m i ok => match ev E m, ev E i with
    | some (.d .nilm), some key => if keyOk ks agg key then some ⟨lookOk ok z false, [], [], 0, True⟩ else none
    | some (.mp n), some key => match H n with
      | some (.map es c) => if keyOk ks agg key then match findS ks agg key es 0 with
          | some r => some ⟨lookOk ok (lookS es z r) r.isSome, [(n, .map es c)], [(n, .map es c)], 0, True⟩
          | none => none
        else none
      | some .nomap => if keyOk ks agg key then some ⟨lookOk ok z false, [(n, .nomap)], [(n, .nomap)], 0, True⟩ else none
      | _ => none
    | _, _ => none
  | .mset ks agg m i v => match ev E m, ev E i, ev E v with
    | some (.mp n), some key, some s => match H n with
      | some (.map es c) => if keyOk ks agg key then match findS ks agg key es 0 with
          | some r => some ⟨.any, [(n, .map es c)], [(n, msetS es c key s r)], 0, True⟩
          | none => none
        else none
      | _ => none
    | _, _, _ => none
  | .mdel ks agg m i => match ev E m, ev E i with
    | some (.d .nilm), some key => if keyOk ks agg key then some ⟨.any, [], [], 0, True⟩ else none
    | some (.mp n), some key => match H n with
      | some (.map es c) => if keyOk ks agg key then match findS ks agg key es 0 with
          | some r => some ⟨.any, [(n, .map es c)], [(n, mdelS es c r)], 0, True⟩
          | none => none
        else none
      | some .nomap => if keyOk ks agg key then some ⟨.any, [(n, .nomap)], [(n, .nomap)], 0, True⟩ else none
      | _ => none
    | _, _ => none
  | .mrange m => match ev E m with
    | some (.d .nilm) => some ⟨.it k, [], [(k, .iter none 0 [] 0)], 1, True⟩
    | some (.mp n) => match H n with
      | some (.map es c) => some ⟨.it k, [(n, .map es c)], [(n, .map es c), (k, .iter (some n) c [] c)], 1, True⟩
      | some .nomap => some ⟨.it k, [(n, .nomap)], [(n, .nomap), (k, .iter none 0 [] 0)], 1, True⟩
      | _ => none
    | _ => none
  | .mentry x => match ev E x with
    | some (.it n) => match H n with
      | some (.iter (some m) since seen st) => match H m with
        | some (.map es c) => match seen.getLast? with
          | some stamp => match es.find? (fun e => e.1 == stamp) with
            | some e => some ⟨.tup [e.2.1, e.2.2], [(n, .iter (some m) since seen st), (m, .map es c)], [(n, .iter (some m) since seen st), (m, .map es c)], 0, c = st ∧ n ≠ m⟩
            | none => none
          | none => none
        | _ => none
      | _ => none
    | _ => none
  | .mx x y => match ev E x, ev E y with
    | some (.d (.int k a)), some (.d (.int _ b)) => some ⟨.d (.int k (if b > a then b else a)), [], [], 0, True⟩
    | _, _ => none
  | .mn x y => match ev E x, ev E y with
    | some (.d (.int k a)), some (.d (.int _ b)) => some ⟨.d (.int k (if b < a then b else a)), [], [], 0, True⟩
    | _, _ => none
  | .mkf f first cap => match evs E first, evs E cap with
    | some a, some c => some ⟨.fn f a c, [], [], 0, True⟩
    | _, _ => none
  | .mkm => some ⟨.mp k, [], [(k, .map [] 0)], 1, True⟩
  | .app e sz bytes s x => match appB H e sz (ev E s), appX H (ev E x) with
    | some (n, cs, F, ob), some (m, news, F2, ob2) =>
      if news.all SV.isOne then some ⟨.gs k (n + m), F ++ F2, (k, .arr e sz (n + m) (cs ++ news)) :: F2, 1, ob m ∧ ob2 ∧ n + m ≤ 9223372036854775807 ∧ (n + m) * bytes ≤ 140737488355328 ∧ news.length = m * sz ∧ ((F.map (·.1)).all fun a => (F2.map (·.1)).all fun b => a != b) = true⟩
      else none
    | _, _ => none
  | .mks e sz bytes z len cap => match ev E len, ev E cap with
    | some (.d (.int _ l)), some (.d (.int _ c)) => some ⟨.gs k l.toNat, [], [(k, .arr e sz l.toNat ((List.replicate l.toNat z).flatten))], 1, 0 ≤ l ∧ l ≤ c ∧ c ≤ 9223372036854775807 ∧ bytes * c ≤ 281474976710656⟩
    | _, _ => none
  | _ => none

def cNat2 (P : Program) (t : TypeId) : Option (Nat × TypeId) := match P.underlying t with
  | some (.slice e) => match P.info? e with
    | some i => some (i.size, e)
    | none => none
  | _ => none

def cParts (pl : Nat → Option (Nat × Nat)) : List (Nat × Operand) → Option (List (Nat × Nat × X))
  | [] => some []
  | (i, o) :: r => match pl i, cX o, cParts pl r with
    | some (off, n), some x, some r' => some ((off, n, x) :: r')
    | _, _, _ => none
def fieldPl (P : Program) (fs : Array Field) (i : Nat) : Option (Nat × Nat) := match fs[i]? with
  | some f => match P.info? f.type with
    | some j => some (f.offset, j.size)
    | none => none
  | none => none
def cMaybe : Option Operand → Option (Option X)
  | none => some none
  | some o => (cX o).map some
def szFits (sz : Option Nat) (n : Nat) : Bool := match sz with
  | none => true
  | some m => m == n
def isEq : BinOp → Bool
  | .eql | .neq => true
  | _ => false
def isNeq : BinOp → Bool
  | .neq => true
  | _ => false
def nilKd (P : Program) (t : TypeId) (y : Operand) : Option Nat := match P.underlying t, y with
  | some (.pointer _), .const (.pointer none) => some 0
  | some (.map _ _), .const (.map none) => some 1
  | some (.func _ _ _), .const .nilFunc => some 2
  | some (.slice _), .const (.slice none 0 0) => some 3
  | _, _ => none

def cZero (P : Program) (t : TypeId) : Option SV := match P.info? t with
  | some i => match i.zero with
    | some z => cV z
    | none => none
  | none => none
def aggOf (P : Program) (t : TypeId) : Bool := match tySz P t with
  | some (some _) => true
  | _ => false
/-- An operation of the program in the small form. -/
def cO (P : Program) : Op → Option SO
  | .move x | .assign x => (cX x).map .mv
  | .pick c a b => match cX c, cX a, cX b with
    | some c, some a, some b => some (.pick c a b)
    | _, _, _ => none
  | .alloc t => (zCells P t).map (.alloc t)
  | .box t x => (cX x).map (.box t)
  | .load t x => match cX x, tySz P t with
    | some y, some sz => some (.load sz y)
    | _, _ => none
  | .store t x v => match cX x, cX v, P.info? t with
    | some x, some v, some i => some (.store i.size x v)
    | _, _, _ => none
  | .nilCheck x => (cX x).map .nilc
  | .binOp op t x y _ =>
    if isEq op then
      match P.underlying t with
      | some (.int _) => match cX x, cX y with
        | some x, some y => some (.bin op x y)
        | _, _ => none
      | some .bool => match cX x, cX y with
        | some x, some y => some (.eqb (isNeq op) x y)
        | _, _ => none
      | some (.struct _) | some (.array _ _) => match cX x, cX y, plainEq P 10000 t with
        | some x, some y, some ks => if P.eqGuardType P.depth t then none else some (.eqv (isNeq op) ks x y)
        | _, _, _ => none
      | _ => match nilKd P t y, cX x with
        | some kd, some x => some (.eqnil (isNeq op) kd x)
        | _, _ => none
    else match cX x, cX y with
      | some x, some y => some (.bin op x y)
      | _, _ => none
  | .unOp .not _ x => (cX x).map .not
  | .unOp .neg _ x => (cX x).map .neg
  | .convert src dst x => match P.underlying src, P.underlying dst, cX x with
    | some (.int _), some (.int k), some x => some (.conv k x)
    | _, _, _ => none
  | .fieldAddr s x f => match P.underlying s, cX x with
    | some (.struct fs), some x => match fs[f]? with
      | some f => match P.info? f.type with
        | some i => if i.size = 0 then none else some (.fld f.offset x)
        | none => none
      | none => none
    | _, _ => none
  | .field t x f => match P.underlying t, cX x with
    | some (.struct fs), some x => match fs[f]? with
      | some f => match tySz P f.type with
        | some sz => some (.field f.offset sz x)
        | none => none
      | none => none
    | _, _ => none
  | .indexAddr t x i => match P.underlying t, cX x, cX i with
    | some (.array n e), some x, some i => match P.info? e with
      | some j => some (.idxA n j.size x i)
      | none => none
    | some (.slice e), some x, some i => match P.info? e with
      | some j => some (.idxS j.size x i)
      | none => none
    | _, _, _ => none
  | .index t x i => match P.underlying t, cX x, cX i with
    | some (.array n e), some x, some i => match P.info? e, tySz P e with
      | some j, some sz => if szFits sz j.size then some (.index n j.size sz.isSome x i) else none
      | _, _ => none
    | _, _, _ => none
  | .extract x i => (cX x).map (.ext i)
  | .build t parts => match P.underlying t, zCells P t with
    | some (.struct fs), some z => if fs.all (fun f => (P.info? f.type).isSome) then (cParts (fieldPl P fs) parts.toList).map (.bld z) else none
    | some (.array _ e), some z => match P.info? e with
      | some j => (cParts (fun i => some (i * j.size, j.size)) parts.toList).map (.bld z)
      | none => none
    | _, _ => none
  | .buildSlice t len parts => match P.underlying t with
    | some (.slice e) => match P.info? e, zCells P e with
      | some j, some z => if (len * j.size ≤ 16777216 ∧ len ≤ 16777216) ∧ z.length = j.size then (cParts (fun i => some (i * j.size, j.size)) parts.toList).map (.bsl e j.size len ((List.replicate len z).flatten)) else none
      | _, _ => none
    | _ => none
  | .slice t x lo hi none => match P.underlying t, cX x, cMaybe lo, cMaybe hi with
    | some (.slice e), some x, some lo, some hi => match P.info? e with
      | some j => some (.slc j.size x lo hi)
      | none => none
    | some (.array n e), some x, some lo, some hi => match P.info? e with
      | some j => some (.slcA n j.size x lo hi)
      | none => none
    | _, _, _, _ => none
  | .makeFunc f first cap => match cXs first.toList, cXs cap.toList with
    | some a, some c => some (.mkf f a c)
    | _, _ => none
  | .makeMap t none => some .mkm
  | .makeSlice t l c => match P.underlying t, cX l, cX c with
    | some (.slice e), some l, some c => match P.info? e, zCells P e with
      | some i, some z => if z.length = i.size ∧ 0 < i.size then some (.mks e i.size i.bytes z l c) else none
      | _, _ => none
    | _, _, _ => none
  | .lookup t m i ok => match P.underlying t, cX m, cX i with
    | some (.map kt et), some m, some i => match plainEq P 10000 kt, cZero P et with
      | some ks, some z => some (.look ks (aggOf P kt) z m i ok)
      | _, _ => none
    | _, _, _ => none
  | .mapUpdate t m i v | .insert t m i v => match P.underlying t, cX m, cX i, cX v with
    | some (.map kt et), some m, some i, some v => match plainEq P 10000 kt with
      | some ks => some (.mset ks (aggOf P kt) m i v)
      | none => none
    | _, _, _, _ => none
  | .range t m => match P.underlying t, cX m with
    | some (.map _ _), some m => some (.mrange m)
    | _, _ => none
  | .next it s => if s then none else (cX it).map .mnext
  | .entry it => (cX it).map .mentry
  | .call c => match c.callee, c.args.toList, c.argTypes.toList with
    | .builtin .len, [x], [t] => match P.underlying t, cX x with
      | some (.slice _), some x => some (.len x)
      | some (.map _ _), some x => some (.mlen x)
      | _, _ => none
    | .builtin .delete, [m, i], [t, t'] => match P.underlying t, cX m, cX i with
      | some (.map kt et), some m, some i => match plainEq P 10000 kt with
        | some ks => some (.mdel ks (aggOf P kt) m i)
        | none => none
      | _, _, _ => none
    | .builtin .append, [x, y], [t, t'] => if t = t' then match P.underlying t, cX x, cX y with
        | some (.slice e), some x, some y => match P.info? e, zCells P e with
          | some i, some z => if z.length = i.size ∧ 0 < i.size then some (.app e i.size i.bytes x y) else none
          | _, _ => none
        | _, _, _ => none
      else none
    | .value f, args, _ => match cX f, cXs args with
      | some f, some args => some (.call f args)
      | _, _ => none
    | .builtin .max, [x, y], _ => match cX x, cX y with
      | some x, some y => some (.mx x y)
      | _, _ => none
    | .builtin .min, [x, y], _ => match cX x, cX y with
      | some x, some y => some (.mn x y)
      | _, _ => none
    | _, _, _ => none
  | _ => none
end Go.Sl
