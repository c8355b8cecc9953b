/- Code with all that hangs on the program's tables alone worked out ahead; what such code comes to, said of states; and that the evaluator comes to the same. -/
import Derived.Test.YtkamfflnfnjbeaaAbsLim
set_option linter.unusedSimpArgs false
set_option linter.unusedVariables false
namespace Go.Abs
open Go

inductive Src where
  | v (t : Nat)
  | c (x : T)
  | d
  deriving Inhabited

abbrev FEnv := Nat → AV

def Src.get (e : FEnv) : Src → AV
  | .v t => e t
  | .c x => .t x
  | .d => .dead

def upd (e : FEnv) (d : Option Tmp) (v : AV) : FEnv :=
  match d with
  | some t => fun s => if s = t then v else e s
  | none => e

inductive IOp where
  | mv (x : Src)
  | gmv (size : Nat) (x : Src)
  | pk (c a b : Src)
  | nw (k : Nat) (z : T)
  | nwG (size : Nat)
  | bx (m : Bool) (x : Src)
  | bd (cs : List T) (parts : List (Nat × Nat × Src))
  | bs (m : Bool) (size : Nat) (z : T) (len : Nat) (parts : List (Nat × Src))
  | ld (agg : Bool) (n : Nat) (a : Src)
  | st (n : Nat) (a x : Src)
  | nc (x : Src)
  | bin (op : BinOp) (bl : Bool) (x y : Src)
  | nt (x : Src)
  | ng (x : Src)
  | cv (k : IntKind) (x : Src)
  | fn (g : FuncId) (first captured : List Src)
  | sl (size : Nat) (x : Src) (lo hi mx : Option Src)
  | fa (off : Nat) (x : Src)
  | fd (agg : Bool) (n off : Nat) (x : Src)
  | iaS (size : Nat) (x i : Src)
  | iaA (len size : Nat) (x i : Src)
  | ixA (agg : Bool) (n len size : Nat) (x i : Src)
  | ex (x : Src) (i : Nat)
  | lenS (x : Src)
  | app (size bytes : Nat) (s x : Src)
  | mnx (mx : Bool) (x y : Src)
  | call (g : Src) (args : List Src)
  | raw (o : Oper)
  deriving Inhabited

def i64 (n : Int) : AV := .t (.sc (.int .i64 n))
def bo (b : Bool) : AV := .t (.sc (.bool b))

def iBin (op : BinOp) (bl : Bool) : AV → AV → Option AV
  | .t (.sc (.int k a)), .t (.sc (.int k' b)) =>
    match op with
    | .shl => if b < 0 then none else some (.t (.sc (.int k (k.wrap (a * 2 ^ (min b.toNat k.bits))))))
    | .shr => if b < 0 then none else some (.t (.sc (.int k (a.fdiv (2 ^ (min b.toNat k.bits))))))
    | .add => if k = k' then some (.t (.sc (.int k (k.wrap (a + b))))) else none
    | .sub => if k = k' then some (.t (.sc (.int k (k.wrap (a - b))))) else none
    | .mul => if k = k' then some (.t (.sc (.int k (k.wrap (a * b))))) else none
    | .quo => if k = k' then (if b = 0 then none else some (.t (.sc (.int k (k.wrap (a.tdiv b)))))) else none
    | .rem => if k = k' then (if b = 0 then none else some (.t (.sc (.int k (a.tmod b))))) else none
    | .and => if k = k' then some (.t (.sc (.int k (k.wrap (BitVec.ofInt k.bits a &&& BitVec.ofInt k.bits b).toNat)))) else none
    | .or => if k = k' then some (.t (.sc (.int k (k.wrap (BitVec.ofInt k.bits a ||| BitVec.ofInt k.bits b).toNat)))) else none
    | .xor => if k = k' then some (.t (.sc (.int k (k.wrap (BitVec.ofInt k.bits a ^^^ BitVec.ofInt k.bits b).toNat)))) else none
    | .andNot => if k = k' then some (.t (.sc (.int k (k.wrap (BitVec.ofInt k.bits a &&& ~~~ BitVec.ofInt k.bits b).toNat)))) else none
    | .eql => if k = k' then some (bo (decide (a = b))) else none
    | .neq => if k = k' then some (bo (decide (a ≠ b))) else none
    | .lss => if k = k' then some (bo (decide (a < b))) else none
    | .leq => if k = k' then some (bo (decide (a ≤ b))) else none
    | .gtr => if k = k' then some (bo (decide (b < a))) else none
    | .geq => if k = k' then some (bo (decide (b ≤ a))) else none
  | .t (.sc (.bool a)), .t (.sc (.bool b)) =>
    if bl then (match op with
      | .eql => some (bo (a == b))
      | .neq => some (bo (a != b))
      | _ => none) else none
  | .t (.sc (.string a)), .t (.sc (.string b)) =>
    match op with
    | .eql => some (bo (a.toList == b.toList))
    | .neq => some (bo !(a.toList == b.toList))
    | _ => none
  | _, _ => none

def takeR (agg : Bool) (n : Nat) (cs : List AV) : Option AV := if agg then (if n ≤ cs.length then some (mkAgg (cs.take n)) else none) else cs.head?
def takeRT (agg : Bool) (n : Nat) (cs : List T) : Option T := if agg then (if n ≤ cs.length then some (.agg (cs.take n)) else none) else cs.head?

def iLoad (agg : Bool) (n : Nat) (a : AV) (h : Heap) : Option AV :=
  match a with
  | .t (.ip cs) => match takeRT agg n cs with | some x => some (.t x) | none => none
  | .ref o e i off => match rowAt h o e i with
    | some v => takeR agg n (v.cells.drop off)
    | none => none
  | _ => none

def iStore (size : Nat) (a v : AV) (h : Heap) : Option Heap :=
  match a with
  | .ref o e i off =>
    match h[o]? with
    | some (.row k elems mr) =>
      if e = elems.length ∧ v.cells.length = size ∧ mr ≤ e then
        match elems[i]? with
        | some old =>
          if off + size ≤ k ∧ 0 < size ∧ storableAll v.cells = true then some (h.set o (.row k (elems.set i (pack old.isAgg (splice old.cells off v.cells))) e)) else none
        | none => none
      else none
    | _ => none
  | _ => none

def iFieldAddr (off : Nat) : AV → Option AV
  | .t (.ip cs) => some (.t (.ip (cs.drop off)))
  | .ref o e i k => some (.ref o e i (k + off))
  | _ => none

def iIdxS (size : Nat) (x : AV) (j : Nat) : Option AV :=
  match x with
  | .t (.sl _ k xs) => match xs[j]? with
    | some v => if k = size then some (.t (.ip v.cells)) else none
    | none => none
  | .ms o e i len k _ => if j < len ∧ k = size then some (.ref o e (i + j) 0) else none
  | _ => none

def iIdxA (len size : Nat) (x : AV) (k : Nat) : Option AV :=
  if k < len then (match x with
    | .t (.ip cs) => some (.t (.ip (cs.drop (k * size))))
    | .ref o e i off => some (.ref o e i (off + k * size))
    | _ => none) else none

def fillR (cells : List AV) : List (Nat × Nat × AV) → Option (List AV)
  | [] => some cells
  | (off, size, v) :: rest => if v.cells.length = size ∧ 0 < size ∧ off + size ≤ cells.length then fillR (splice cells off v.cells) rest else none

def iSlice (size : Nat) (x : AV) (lo hi mx : Option AV) : Option AV :=
  match x with
  | .t (.sl clip k xs) =>
    match optNat 0 lo, optNat xs.length hi with
    | some l, some u =>
      if l ≤ u ∧ u ≤ xs.length ∧ k = size then
        match mx with
        | none => some (.t (.sl (clip && decide (u = xs.length)) k ((xs.take u).drop l)))
        | some m => match asNat m with
          | some m => if m = u ∧ hi.isSome = true then some (.t (.sl true k ((xs.take u).drop l))) else none
          | none => none
      else none
    | _, _ => none
  | .t (.sc (.slice none 0 0)) =>
    match optNat 0 lo, optNat 0 hi, optNat 0 mx with
    | some 0, some 0, some 0 => if mx.isSome = true ∧ hi.isSome = false then none else some x
    | _, _, _ => none
  | .ms o e i len k clip =>
    match optNat 0 lo, optNat len hi with
    | some l, some u =>
      if l ≤ u ∧ u ≤ len ∧ k = size then
        match mx with
        | none => some (.ms o e (i + l) (u - l) k (clip && decide (u = len)))
        | some m => match asNat m with
          | some m => if m = u ∧ hi.isSome = true then some (.ms o e (i + l) (u - l) k true) else none
          | none => none
      else none
    | _, _ => none
  | _ => none

def iAppend (size bytes : Nat) (s x : AV) (h : Heap) : Option (AV × Heap) :=
  match elemsOf h size x with
  | some xs =>
    match s with
    | .t (.sc (.slice none 0 0)) =>
      match xs with
      | [] => some (s, h)
      | x :: xs => if (xs.length + 1) * bytes ≤ roomB then some (.ms h.length (xs.length + 1) 0 (xs.length + 1) size false, h ++ [.row size (x :: xs) 0]) else none
    | .t (.sl true k ys) =>
      match xs with
      | [] => some (s, h)
      | x :: xs => if (ys.length + (xs.length + 1)) * bytes ≤ roomB ∧ (k = size ∨ ys = []) then
          some (.ms h.length (ys.length + (xs.length + 1)) 0 (ys.length + (xs.length + 1)) size false, h ++ [.row size (ys.map .t ++ (x :: xs)) 0]) else none
    | .ms o e i len k clip =>
      match xs with
      | [] => some (s, h)
      | x :: xs =>
        match h[o]? with
        | some (.row k2 elems mr) =>
          if (len + (xs.length + 1)) * bytes ≤ roomB ∧ k = size ∧ k2 = size ∧ mr ≤ e ∧ i + len ≤ e ∧ e ≤ elems.length then
            if clip then
              some (.ms h.length (len + (xs.length + 1)) 0 (len + (xs.length + 1)) size false, h ++ [.row size ((elems.drop i).take len ++ (x :: xs)) 0])
            else if i = 0 ∧ len = e ∧ e = elems.length then
              some (.ms o (e + (xs.length + 1)) 0 (len + (xs.length + 1)) size false, h.set o (.row size (elems ++ (x :: xs)) mr))
            else none
          else none
        | _ => none
    | _ => none
  | none => none

def srcs (e : FEnv) : List Src → List AV
  | [] => []
  | x :: r => x.get e :: srcs e r

def parts2 (e : FEnv) : List (Nat × Src) → List (Nat × AV)
  | [] => []
  | (i, x) :: r => (i, x.get e) :: parts2 e r

def parts3 (e : FEnv) : List (Nat × Nat × Src) → List (Nat × Nat × AV)
  | [] => []
  | (i, n, x) :: r => (i, n, x.get e) :: parts3 e r

def optSrc (e : FEnv) : Option Src → Option AV
  | none => none
  | some x => some (x.get e)

def vOf (h : Heap) : Option AV → Option Res
  | some v => some (.val v h)
  | none => none

def hOf : Option Heap → Option Res
  | some h => some (.skip h)
  | none => none

def vhOf : Option (AV × Heap) → Option Res
  | some (v, h) => some (.val v h)
  | none => none

def cSrc (pol : Pol) : Operand → Src
  | .tmp t => .v t
  | .const v => if okVal v then .c (ofVal v) else .d
  | .global g => match pol.glob g with | some x => .c x | none => .d
  | .func f => .c (.fn (.func f) [] [])

def iPick (c a b : AV) : Option AV :=
  match c with
  | .t (.sc (.bool c)) => match a, b with
    | .t (.sc (.bool x)), .t (.sc (.bool y)) => some (bo (if c then x else y))
    | x, y => some (if c then x else y)
  | _ => none

def iBox (m : Bool) (x : AV) (h : Heap) : Option Res :=
  match m, x with
  | false, .t y => if storableAll (AV.t y).cells then some (.val (.t (.ip y.cells)) h) else none
  | _, y => if storableAll y.cells && !y.cells.isEmpty then some (.val (.ref h.length 1 0 0) (h ++ [.row y.cells.length [y] 0])) else none

def iNot : AV → Option AV
  | .t (.sc (.bool b)) => some (bo !b)
  | _ => none

def iNeg : AV → Option AV
  | .t (.sc (.int k n)) => some (.t (.sc (.int k (k.wrap (0 - n)))))
  | _ => none

def iConv (k : IntKind) : AV → Option AV
  | .t (.sc (.int _ n)) => some (.t (.sc (.int k (k.wrap n))))
  | _ => none

def iFn (g : FuncId) (a b : List AV) : AV :=
  match allT a, allT b with
  | some a, some b => .t (.fn (.func g) a b)
  | _, _ => .fn (.func g) a b

def iExt (x : AV) (i : Nat) : Option AV :=
  match x with
  | .t (.tup vs) => match vs[i]? with | some y => some (.t y) | none => none
  | .tup vs => vs[i]?
  | _ => none

def iLen (x : AV) : Option AV :=
  match lenOf x with
  | some n => some (i64 n)
  | none => none

def iMnx (mx : Bool) : AV → AV → Option AV
  | .t (.sc (.int k a)), .t (.sc (.int _ b)) => some (.t (.sc (.int k (if mx then (if a < b then b else a) else (if b < a then b else a)))))
  | _, _ => none

def iFld (agg : Bool) (n off : Nat) (x : AV) : Option AV := if x.isAgg then takeR agg n (x.cells.drop off) else none

def iNil : AV → Option AV
  | .t (.ip cs) => some (.t (.ip cs))
  | .t (.fn (.func g) a b) => some (.t (.fn (.func g) a b))
  | .ref o e i k => some (.ref o e i k)
  | .fn (.func g) a b => some (.fn (.func g) a b)
  | .yl o => some (.yl o)
  | _ => none

def iGrow (size : Nat) (x : AV) (h : Heap) : Res :=
  match x with
  | .t (.sc (.slice none 0 0)) => .val (.ms h.length 0 0 0 size false) (h ++ [.row size [] 0])
  | y => .val y h

def iBuildS (m : Bool) (size : Nat) (z : T) (len : Nat) (parts : List (Nat × AV)) (h : Heap) : Option Res :=
  match fillElems size (List.replicate len (.t z)) parts with
  | some elems => match m, allT elems with
    | false, some ts => some (.val (.t (.sl true size ts)) h)
    | _, _ => some (.val (.ms h.length len 0 len size true) (h ++ [.row size elems 0]))
  | none => none

def iBuild (cs : List T) (parts : List (Nat × Nat × AV)) : Option AV :=
  match fillR (cs.map .t) parts with
  | some cs => some (mkAgg cs)
  | none => none

/-- One operation. -/
def iStep (P : Program) (pol : Pol) (f : FuncId) (e : FEnv) (h : Heap) : IOp → Option Res
  | .mv x => some (.val (x.get e) h)
  | .gmv size x => some (iGrow size (x.get e) h)
  | .pk c a b => vOf h (iPick (c.get e) (a.get e) (b.get e))
  | .nw k z => some (.val (.ref h.length 1 0 0) (h ++ [.row k [.t z] 0]))
  | .nwG size => some (.val (.ref (h.length + 1) 1 0 0) (h ++ [.row size [] 0, .row 1 [.ms h.length 0 0 0 size false] 0]))
  | .bx m x => iBox m (x.get e) h
  | .bd cs parts => vOf h (iBuild cs (parts3 e parts))
  | .bs m size z len parts => iBuildS m size z len (parts2 e parts) h
  | .ld agg n a => vOf h (iLoad agg n (a.get e) h)
  | .st n a x => hOf (iStore n (a.get e) (x.get e) h)
  | .nc x => vOf h (iNil (x.get e))
  | .bin op bl x y => vOf h (iBin op bl (x.get e) (y.get e))
  | .nt x => vOf h (iNot (x.get e))
  | .ng x => vOf h (iNeg (x.get e))
  | .cv k x => vOf h (iConv k (x.get e))
  | .fn g a b => some (.val (iFn g (srcs e a) (srcs e b)) h)
  | .sl size x lo hi mx => vOf h (iSlice size (x.get e) (optSrc e lo) (optSrc e hi) (optSrc e mx))
  | .fa off x => vOf h (iFieldAddr off (x.get e))
  | .fd agg n off x => vOf h (iFld agg n off (x.get e))
  | .iaS size x i => match asNat (i.get e) with
    | some j => vOf h (iIdxS size (x.get e) j)
    | none => none
  | .iaA len size x i => match asNat (i.get e) with
    | some j => vOf h (iIdxA len size (x.get e) j)
    | none => none
  | .ixA agg n len size x i => match asNat (i.get e) with
    | some k => if (x.get e).isAgg then (if k < len then vOf h (takeR agg n ((x.get e).cells.drop (k * size))) else none) else none
    | none => none
  | .ex x i => vOf h (iExt (x.get e) i)
  | .lenS x => vOf h (iLen (x.get e))
  | .app size bytes s x => vhOf (iAppend size bytes (s.get e) (x.get e) h)
  | .mnx mx x y => vOf h (iMnx mx (x.get e) (y.get e))
  | .call g args => aCallee (g.get e) (srcs e args)
  | .raw o => aOp P pol f (fun x => (cSrc pol x).get e) h o

/-- What an operation touches. -/
inductive TK where
  | objs (l : List Src)
  | cal (g : Src) (args : List Src)
  | any
  deriving Inhabited

structure I1 where
  dst : Option Tmp
  g : Option (Tmp × Bool) := none
  fz : Option (List Src) := none
  tk : TK := .objs []
  op : IOp
  deriving Inhabited

inductive C where
  | nop
  | ops (l : List I1)
  | opsD (crit : List (Nat × Nat)) (l : List I1)
  | seq (a b : C)
  | cond (c : Src) (a b : C)
  | block (id : Nat) (c : C)
  | loop (live : Option (List Tmp)) (c : C)
  | exit (id : Nat)
  | ret
  | rangeF (n : Nat) (live : Option (List Tmp)) (g : Src) (params : List Tmp) (assign body : Code)
  | bad
  deriving Inhabited

section
variable (P : Program) (pol : Pol) (f : FuncId)

def cPlaces (ps : List (Nat × Nat)) : List (Nat × Operand) → Option (List (Nat × Nat × Src))
  | [] => some []
  | (i, x) :: r => match ps[i]?, cPlaces ps r with
    | some (off, n), some l => some ((off, n, cSrc pol x) :: l)
    | _, _ => none

def cPlacesA (size : Nat) : List (Nat × Operand) → List (Nat × Nat × Src)
  | [] => []
  | (i, x) :: r => (i * size, size, cSrc pol x) :: cPlacesA size r

def cParts : List (Nat × Operand) → List (Nat × Src)
  | [] => []
  | (i, x) :: r => (i, cSrc pol x) :: cParts r

/-- The operation with the tables' answers in it. -/
def cOp (o : Oper) : IOp :=
  let d := o.dst.getD 0
  match o.op with
  | .move x => .mv (cSrc pol x)
  | .assign x => if pol.grow f d then (match typ P o.type with
      | some (.slice elem) => match szOf P elem with
        | some size => .gmv size (cSrc pol x)
        | none => .raw o
      | _ => .raw o) else .mv (cSrc pol x)
  | .pick c a b => .pk (cSrc pol c) (cSrc pol a) (cSrc pol b)
  | .alloc t => if pol.grow f d then (match zeroOf P t, typ P t with
      | some (.sc (.slice none 0 0)), some (.slice elem) => match szOf P elem with
        | some size => .nwG size
        | none => .raw o
      | _, _ => .raw o) else (match zeroOf P t with
      | some z => if storableAll (AV.t z).cells then .nw (AV.t z).cells.length z else .raw o
      | none => .raw o)
  | .box _ x => if pol.grow f d then .raw o else .bx (pol.isMut f d) (cSrc pol x)
  | .build t parts => match zeroOf P t, typ P t with
    | some z, some (.struct fields) => match placesOf P fields.toList with
      | some places => match cPlaces pol places parts.toList with
        | some l => .bd z.cells l
        | none => .raw o
      | none => .raw o
    | some z, some (.array _ elem) => match szOf P elem with
      | some size => .bd z.cells (cPlacesA pol size parts.toList)
      | none => .raw o
    | _, _ => .raw o
  | .buildSlice t len parts => match typ P t with
    | some (.slice elem) => match szOf P elem, zeroOf P elem with
      | some size, some z => if size = 0 ∨ 16777216 < len * size ∨ (AV.t z).cells.length ≠ size ∨ storableAll (AV.t z).cells = false then .raw o else .bs (pol.isMut f d) size z len (cParts pol parts.toList)
      | _, _ => .raw o
    | _ => .raw o
  | .load t a => match aggB P t, szOf P t with
    | some b, some n => .ld b n (cSrc pol a)
    | _, _ => .raw o
  | .store t a x => match szOf P t with
    | some n => .st n (cSrc pol a) (cSrc pol x)
    | none => .raw o
  | .nilCheck x => .nc (cSrc pol x)
  | .binOp op t x y _ => match typ P t with
    | some .bool => .bin op true (cSrc pol x) (cSrc pol y)
    | some (.int _) => .bin op false (cSrc pol x) (cSrc pol y)
    | some .string => .bin op false (cSrc pol x) (cSrc pol y)
    | _ => .raw o
  | .unOp op _ x => match op with
    | .not => .nt (cSrc pol x)
    | .neg => .ng (cSrc pol x)
    | _ => .raw o
  | .convert s t x => match typ P s, typ P t with
    | some (.int _), some (.int k) => .cv k (cSrc pol x)
    | _, _ => .raw o
  | .makeFunc fn first captured => match fn with
    | .func g => .fn g (first.toList.map (cSrc pol)) (captured.toList.map (cSrc pol))
    | _ => .raw o
  | .slice t x lo hi mx => match typ P t with
    | some (.slice elem) => match szOf P elem with
      | some size => .sl size (cSrc pol x) (lo.map (cSrc pol)) (hi.map (cSrc pol)) (mx.map (cSrc pol))
      | none => .raw o
    | _ => .raw o
  | .fieldAddr s x fi => match aField P s fi with
    | some (_, off) => .fa off (cSrc pol x)
    | none => .raw o
  | .field s x fi => match aField P s fi with
    | some (t, off) => match aggB P t, szOf P t with
      | some b, some n => .fd b n off (cSrc pol x)
      | _, _ => .raw o
    | none => .raw o
  | .indexAddr t x ix => match typ P t with
    | some (.slice elem) => match szOf P elem with
      | some size => .iaS size (cSrc pol x) (cSrc pol ix)
      | none => .raw o
    | some (.array len elem) => match szOf P elem with
      | some size => .iaA len size (cSrc pol x) (cSrc pol ix)
      | none => .raw o
    | _ => .raw o
  | .index t x ix => match typ P t with
    | some (.array len elem) => match szOf P elem, aggB P elem with
      | some size, some b => .ixA b size len size (cSrc pol x) (cSrc pol ix)
      | _, _ => .raw o
    | _ => .raw o
  | .extract x i => .ex (cSrc pol x) i
  | .call c => match c.callee with
    | .builtin b => match b, c.args.toList, c.argTypes.toList with
      | .len, [x], [t] => match typ P t with
        | some (.slice _) => .lenS (cSrc pol x)
        | _ => .raw o
      | .append, [s, x], [t, u] => match typ P t, typ P u with
        | some (.slice elem), some (.slice _) => match szOf P elem, byOf P elem with
          | some size, some bytes => if size = 0 ∨ bytes = 0 ∨ zeroCells P elem ≠ some size then .raw o else .app size bytes (cSrc pol s) (cSrc pol x)
          | _, _ => .raw o
        | _, _ => .raw o
      | .min, [x, y], _ => .mnx false (cSrc pol x) (cSrc pol y)
      | .max, [x, y], _ => .mnx true (cSrc pol x) (cSrc pol y)
      | _, _, _ => .raw o
    | .value g => .call (cSrc pol g) (c.args.toList.map (cSrc pol))
    | .invoke _ _ => .raw o
  | _ => .raw o

def cTk (o : Oper) : TK :=
  match o.op with
  | .load _ a => .objs [cSrc pol a]
  | .store _ a _ => .objs [cSrc pol a]
  | .lookup _ m _ _ => .objs [cSrc pol m]
  | .mapUpdate _ m _ _ => .objs [cSrc pol m]
  | .insert _ m _ _ => .objs [cSrc pol m]
  | .call c => match c.callee with
    | .builtin .append => .objs (c.args.toList.map (cSrc pol))
    | .builtin .copy => .objs (c.args.toList.map (cSrc pol))
    | .builtin .len => .objs (c.args.toList.map (cSrc pol))
    | .builtin _ => .objs []
    | .value g => .cal (cSrc pol g) (c.args.toList.map (cSrc pol))
    | .invoke _ _ => .any
  | _ => .objs []

def cGuard (ops : List Oper) : Option (Nat × Bool) → Option (Option (Tmp × Bool))
  | none => some none
  | some (j, want) => match ops[j]? with
    | some o => match o.dst with
      | some d => some (some (d, want))
      | none => none
    | none => none

def dstOk (n : Nat) : Option Tmp → Bool
  | none => true
  | some d => decide (d < n)

def cOps (n : Nat) (ops : List Oper) : List Oper → Option (List I1)
  | [] => some []
  | o :: r => match cGuard ops o.guard, cOps n ops r with
    | some g, some l => if dstOk n o.dst then some ({ dst := o.dst, g := g, fz := if pol.frz f (o.dst.getD 0) then some (o.op.operands.toList.map (cSrc pol)) else none, op := cOp P pol f o } :: l) else none
    | _, _ => none

def cOpsD (n : Nat) (ops : List Oper) : List Oper → Option (List I1)
  | [] => some []
  | o :: r => match cGuard ops o.guard, cOpsD n ops r with
    | some g, some l => if dstOk n o.dst then some ({ dst := o.dst, g := g, tk := cTk pol o, op := cOp P pol f o } :: l) else none
    | _, _ => none

def cCode (n : Nat) : (bid : Nat) → Code → C
  | _, .skip => .nop
  | _, .label _ => .nop
  | _, .region _ ops false => match cOps P pol f n ops.toList ops.toList with
    | some l => .ops l
    | none => .bad
  | _, .region id ops true => match cOpsD P pol f n ops.toList ops.toList with
    | some l => .opsD (pol.crit f id) l
    | none => .bad
  | bid, .seq a b => .seq (cCode n bid a) (cCode n bid b)
  | bid, .cond c a b => .cond (cSrc pol c) (cCode n bid a) (cCode n bid b)
  | _, .block id c => .block id (cCode n id c)
  | bid, .loop c => .loop (pol.live f bid) (cCode n bid c)
  | bid, .scope c => cCode n bid c
  | _, .exit id => .exit id
  | _, .ret => .ret
  | bid, .rangeFunc g params assign body => .rangeF n (pol.live f bid) (cSrc pol g) params.toList assign body
  | _, _ => .bad

end

/-! ### What code comes to -/

def gOk (e : FEnv) : Option (Tmp × Bool) → Option Bool
  | none => some true
  | some (t, want) => match e t with
    | .t (.sc (.bool b)) => some (b == want)
    | .t (.sc _) => some false
    | _ => none

def resStep (pol : Pol) (K : Oracle) (I : Inl) (f : FuncId) (d : Option Tmp) (h : Heap) : Option Res → Option (AV × Heap)
  | some (.val v h') => some (v, h')
  | some (.skip h') => some (.t (.sc undef), h')
  | some (.call g args) => aCall pol K I f (d.getD 0) g args h
  | none => none

def frzF (h : Heap) (p : Nat → Bool) (e : FEnv) : FEnv := fun t => match frz h p (e t) with | some v => v | none => .dead

def freezeF (os : List Nat) (e : FEnv) (h : Heap) : Option (FEnv × Heap) :=
  match goneOf h (fun o => os.contains o) 0 h with
  | some h' => some (frzF h (fun o => os.contains o) e, h')
  | none => none

def shrinkF (n : Nat) (e : FEnv) (h : Heap) : Option (FEnv × Heap) :=
  if h.length ≤ n then some (e, h)
  else match mapO (frzObj h (fromB n)) (h.take n) with
    | some h' => some (frzF h (fromB n) e, h')
    | none => none

def tidyF (live : Option (List Tmp)) (e : FEnv) : FEnv :=
  match live with
  | some ts => fun t => if ts.contains t then e t else .dead
  | none => e

def tkOf (pol : Pol) (f : FuncId) (d : Option Tmp) (e : FEnv) : TK → Option (List Nat)
  | .objs l => some ((srcs e l).flatMap objsOf)
  | .cal g args => match aCallee (g.get e) (srcs e args) with
    | some (.call (.fn k) args) => if pol.inl k f (d.getD 0) then none else (match allT args with | some _ => some [] | none => none)
    | _ => none
  | .any => none

section
variable (P : Program) (pol : Pol) (K : Oracle) (I : Inl) (n : Nat) (f : FuncId)

def wpOps : List I1 → (FEnv → Heap → Prop) → FEnv → Heap → Prop
  | [], Q, e, h => Q e h
  | i :: r, Q, e, h =>
    match gOk e i.g with
    | some true => match i.fz with
      | none => match resStep pol K I f i.dst h (iStep P pol f e h i.op) with
        | some (v, h') => wpOps r Q (upd e i.dst v) h'
        | none => False
      | some os => match freezeF (reach h 20 (namesAll (srcs e os))) e h with
        | some (e1, h1) => match resStep pol K I f i.dst h1 (iStep P pol f e1 h1 i.op) with
          | some (v, h') => wpOps r Q (upd e1 i.dst v) h'
          | none => False
        | none => False
    | some false => wpOps r Q (upd e i.dst (.t (.sc undef))) h
    | none => False

def wpOpsD : List I1 → (FEnv → Heap → List (Option (List Nat)) → Prop) → FEnv → Heap → Prop
  | [], Q, e, h => Q e h []
  | i :: r, Q, e, h =>
    match gOk e i.g with
    | some true => match resStep pol K I f i.dst h (iStep P pol f e h i.op) with
      | some (v, h') => if h'.length < h.length then False else wpOpsD r (fun e' h'' ts => Q e' h'' (touchN (tkOf pol f i.dst e i.tk) h h' :: ts)) (upd e i.dst v) h'
      | none => False
    | some false => wpOpsD r (fun e' h'' ts => Q e' h'' (some [] :: ts)) (upd e i.dst (.t (.sc undef))) h
    | none => False

def wpIter (n0 : Nat) (live : Option (List Tmp)) (body : (Xit → FEnv → Heap → Prop) → FEnv → Heap → Prop) (Q : Xit → FEnv → Heap → Prop) : Nat → FEnv → Heap → Prop
  | 0, _, _ => False
  | m + 1, e, h => body (fun x e' h' => match x with
      | .normal => match shrinkF n0 e' h' with
        | some (e'', h'') => wpIter n0 live body Q m e'' h''
        | none => False
      | .exit id => Q (.exit id) e' h'
      | .ret => Q .ret e' h') (tidyF live e) h

def wpC : C → (Xit → FEnv → Heap → Prop) → FEnv → Heap → Prop
  | .nop, Q, e, h => Q .normal e h
  | .ops l, Q, e, h => wpOps P pol K I f l (fun e h => Q .normal e h) e h
  | .opsD crit l, Q, e, h => wpOpsD P pol K I f l (fun e h ts => critOk crit ts = true ∧ Q .normal e h) e h
  | .seq a b, Q, e, h => wpC a (fun x e h => match x with
      | .normal => wpC b Q e h
      | .exit id => Q (.exit id) e h
      | .ret => Q .ret e h) e h
  | .cond c a b, Q, e, h => match c.get e with
    | .t (.sc (.bool t)) => if t then wpC a Q e h else wpC b Q e h
    | _ => False
  | .block id c, Q, e, h => wpC c (fun x e h => match x with
      | .exit j => if j = id then Q .normal e h else Q (.exit j) e h
      | .normal => Q .normal e h
      | .ret => Q .ret e h) e h
  | .loop live c, Q, e, h => wpIter h.length live (wpC c) Q n e h
  | .exit id, Q, e, h => Q (.exit id) e h
  | .ret, Q, e, h => Q .ret e h
  | .rangeF m live g params assign body, Q, e, h => match aCallee (g.get e) [.yl h.length] with
    | some (.call (.fn gf) args) => match I (.fn gf) args (h ++ [.loop f ((List.range m).map (tidyF live e)) params assign body false none]) with
      | some (_, h2) => match loopOf h2 h.length, shrinkF h.length e (h2.set h.length .gone) with
        | some none, some (e', h') => Q .normal e' h'
        | some (some .ret), some (e', h') => Q .ret e' h'
        | some (some (.exit id)), some (e', h') => Q (.exit id) e' h'
        | _, _ => False
      | none => False
    | _ => False
  | .bad, _, _, _ => False

end

/-- A function, worked out. -/
structure FnIL where
  ntmps : Nat
  code : C
  results : List (Nat × Option (Bool × Nat))

def cRes (P : Program) : List ResultVar → Option (List (Nat × Option (Bool × Nat)))
  | [] => some []
  | .tmp t :: r => match cRes P r with | some l => some ((t, none) :: l) | none => none
  | .cell a t :: r => match aggB P t, szOf P t, cRes P r with
    | some b, some n, some l => some ((a, some (b, n)) :: l)
    | _, _, _ => none

def cFn (P : Program) (pol : Pol) (f : FuncId) : Option FnIL :=
  match P.funcs[f]? with
  | some fn => match fn.body, cRes P fn.results.toList with
    | some c, some rs => some { ntmps := fn.ntmps, code := cCode P pol f fn.ntmps 0 c, results := rs }
    | _, _ => none
  | none => none

def resF (e : FEnv) (h : Heap) : List (Nat × Option (Bool × Nat)) → Option (List AV)
  | [] => some []
  | (t, none) :: r => match resF e h r with | some l => some (e t :: l) | none => none
  | (t, some (b, n)) :: r => match iLoad b n (e t) h, resF e h r with
    | some v, some l => some (v :: l)
    | _, _ => none

def envOf (args : List AV) : FEnv := fun t => args.getD t .dead

end Go.Abs
