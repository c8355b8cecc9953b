/- The abstract evaluator: values as trees, a small heap of mutable objects, an oracle for pure calls. Nothing here speaks of the machine; the soundness is in the next texts. -/
import GoSem.Step
set_option linter.unusedSimpArgs false
set_option linter.unusedVariables false
namespace Go.Abs
open Go

inductive T where
  | sc (v : Value)
  | agg (cells : List T)
  | sl (clip : Bool) (k : Nat) (elems : List T)
  | ip (cells : List T)
  | fn (f : Fn) (first captured : List T)
  | tup (vs : List T)
  deriving Inhabited

inductive AV where
  | t (x : T)
  | agg (cells : List AV)
  | tup (vs : List AV)
  | ref (o e i off : Nat)
  | ms (o e i len k : Nat) (clip : Bool)
  | mp (o : Nat)
  | yl (o : Nat)
  | fn (f : Fn) (first captured : List AV)
  | dead
  deriving Inhabited

inductive AObj where
  | row (k : Nat) (elems : List AV) (mr : Nat)
  | map (entries : List (Value × AV))
  | loop (f : FuncId) (env : List AV) (params : List Tmp) (assign body : Code) (busy : Bool) (pending : Option Code)
  | gone
  deriving Inhabited

abbrev Env := List AV
abbrev Heap := List AObj

/-- How the evaluator treats the sites of one program: which boxes and literals are mutable, which nil constants open a growing slice, which functions run in the caller's heap. -/
structure Pol where
  isMut : FuncId → Tmp → Bool
  grow : FuncId → Tmp → Bool
  inl : FuncId → FuncId → Tmp → Bool
  frz : FuncId → Tmp → Bool
  live : FuncId → Nat → Option (List Tmp)
  crit : FuncId → Nat → List (Nat × Nat)
  glob : Nat → Option T

def T.cells : T → List T
  | .agg cs => cs
  | x => [x]

def AV.cells : AV → List AV
  | .t (.agg cs) => cs.map .t
  | .agg cs => cs
  | .dead => []
  | v => [v]

def AV.t? : AV → Option T
  | .t x => some x
  | _ => none

def allT : List AV → Option (List T)
  | [] => some []
  | .t x :: r => match allT r with
    | some xs => some (x :: xs)
    | none => none
  | _ :: _ => none

def mkAgg (cs : List AV) : AV :=
  match allT cs with
  | some ts => .t (.agg ts)
  | none => .agg cs

def mkTup (cs : List AV) : AV :=
  match allT cs with
  | some ts => .t (.tup ts)
  | none => .tup cs

def noAgg : Value → Bool
  | .agg _ => false
  | _ => true

/-- A plain value, or an aggregate of plain values. -/
def okVal : Value → Bool
  | .agg cs => cs.toList.all noAgg
  | _ => true

def ofVal : Value → T
  | .agg cs => .agg (cs.toList.map .sc)
  | v => .sc v

def scVals : List T → Option (List Value)
  | [] => some []
  | .sc v :: r => match scVals r with
    | some vs => some (v :: vs)
    | none => none
  | _ :: _ => none

def T.val? : T → Option Value
  | .sc v => some v
  | .agg cs => match scVals cs with
    | some vs => some (.agg vs.toArray)
    | none => none
  | _ => none

def AV.val? : AV → Option Value
  | .t x => x.val?
  | _ => none

/-- The pure part of the model's monad: no memory, no choice. -/
def pureRun {α : Type} (P : Program) : Sem α → Option α
  | .pure a => some a
  | .program k => pureRun P (k P)
  | _ => none

def typ (P : Program) (t : TypeId) : Option TypeDesc := P.underlying t
def szOf (P : Program) (t : TypeId) : Option Nat := match P.info? t with | some i => some i.size | none => none
def byOf (P : Program) (t : TypeId) : Option Nat := match P.info? t with | some i => some i.bytes | none => none
def zeroOf (P : Program) (t : TypeId) : Option T := match P.info? t with | some i => (match i.zero with | some v => if okVal v then some (ofVal v) else none | none => none) | none => none
def aggB (P : Program) (t : TypeId) : Option Bool := match P.underlying t with | some (.struct _) => some true | some (.array _ _) => some true | some _ => some false | none => none

/-- The value of a variable of type t at the head of the cells cs. -/
def takeVar (P : Program) (t : TypeId) (cs : List AV) : Option AV :=
  match aggB P t, szOf P t with
  | some true, some n => if n ≤ cs.length then some (mkAgg (cs.take n)) else none
  | some false, _ => cs.head?
  | _, _ => none

def takeVarT (P : Program) (t : TypeId) (cs : List T) : Option T :=
  match aggB P t, szOf P t with
  | some true, some n => if n ≤ cs.length then some (.agg (cs.take n)) else none
  | some false, _ => cs.head?
  | _, _ => none

/-- cs with vs laid over it from place off on. -/
def splice (cs : List AV) (off : Nat) (vs : List AV) : List AV := cs.take off ++ vs ++ cs.drop (off + vs.length)

/-- A variable's new value out of its cells: where the variable is no aggregate, its one cell. -/
def pack (isAgg : Bool) (cs : List AV) : AV :=
  match isAgg, cs with
  | false, [c] => c
  | _, _ => mkAgg cs

def AV.isAgg : AV → Bool
  | .t (.agg _) => true
  | .agg _ => true
  | _ => false

/-- May the value lie in one cell of memory? -/
def okCell : Value → Bool
  | .agg _ => false
  | .tuple _ => false
  | _ => true

def storable : AV → Bool
  | .t (.sc v) => okCell v
  | .t (.agg _) => false
  | .t (.tup _) => false
  | .t _ => true
  | .agg _ => false
  | .tup _ => false
  | .dead => false
  | _ => true

def storableAll : List AV → Bool
  | [] => true
  | v :: r => storable v && storableAll r

def nilSlice : Value := .slice none 0 0

def fill (place : Nat → Option (Nat × Nat)) (cells : List AV) : List (Nat × AV) → Option (List AV)
  | [] => some cells
  | (i, v) :: rest =>
    match place i with
    | none => none
    | some (off, size) =>
      if v.cells.length = size ∧ 0 < size ∧ off + size ≤ cells.length then fill place (splice cells off v.cells) rest else none

def fillElems (size : Nat) (elems : List AV) : List (Nat × AV) → Option (List AV)
  | [] => some elems
  | (i, v) :: rest => if v.cells.length = size ∧ 0 < size ∧ i < elems.length ∧ storableAll v.cells = true then fillElems size (elems.set i v) rest else none

def asNat : AV → Option Nat
  | .t (.sc (.int _ n)) => if 0 ≤ n then some n.toNat else none
  | _ => none

def optNat (d : Nat) : Option AV → Option Nat
  | none => some d
  | some v => asNat v

inductive Tgt where
  | fn (f : FuncId)
  | yl (o : Nat)

/-- What one operation comes to: a value, or a call. -/
inductive Res where
  | val (v : AV) (h : Heap)
  | skip (h : Heap)
  | call (g : Tgt) (args : List AV)

def rowAt (h : Heap) (o e i : Nat) : Option AV :=
  match h[o]? with
  | some (.row _ elems mr) => if mr ≤ e ∧ i < e ∧ e ≤ elems.length then elems[i]? else none
  | _ => none

/-- The elements that a slice value of elements of size cells reads as. -/
def elemsOf (h : Heap) (size : Nat) : AV → Option (List AV)
  | .t (.sl _ _ []) => some []
  | .t (.sl _ k (x :: xs)) => if k = size then some ((x :: xs).map .t) else none
  | .t (.sc (.slice none 0 0)) => some []
  | .ms o e i len k _ => match h[o]? with
    | some (.row _ elems mr) => if k = size ∧ mr ≤ e ∧ e ≤ elems.length ∧ i + len ≤ e then some ((elems.drop i).take len) else none
    | _ => none
  | _ => none

def lenOf : AV → Option Nat
  | .t (.sl _ _ xs) => some xs.length
  | .t (.sc (.slice none 0 0)) => some 0
  | .ms _ _ _ len _ _ => some len
  | _ => none

def roomB : Nat := 140737488355328

def zeroCells (P : Program) (elem : TypeId) : Option Nat := match zeroOf P elem with | some z => some (AV.t z).cells.length | none => none

def aAppend (P : Program) (sType : TypeId) (s x : AV) (h : Heap) : Option (AV × Heap) :=
  match typ P sType with
  | some (.slice elem) =>
    match szOf P elem, byOf P elem with
    | some size, some bytes =>
      match elemsOf h size x with
      | some xs =>
        if size = 0 ∨ bytes = 0 ∨ zeroCells P elem ≠ some size then none else
        match s with
        | .t (.sc (.slice none 0 0)) =>
          match xs with
          | [] => some (s, h)
          | x :: xs => if (xs.length + 1) * bytes ≤ roomB then some (.ms h.length (xs.length + 1) 0 (xs.length + 1) size false, h ++ [.row size (x :: xs) 0]) else none
        | .t (.sl true k ys) =>
          match xs with
          | [] => some (s, h)
          | x :: xs => if (ys.length + (xs.length + 1)) * bytes ≤ roomB ∧ (k = size ∨ ys = []) then
              some (.ms h.length (ys.length + (xs.length + 1)) 0 (ys.length + (xs.length + 1)) size false, h ++ [.row size (ys.map .t ++ (x :: xs)) 0]) else none
        | .ms o e i len k clip =>
          match xs with
          | [] => some (s, h)
          | x :: xs =>
            match h[o]? with
            | some (.row k2 elems mr) =>
              if (len + (xs.length + 1)) * bytes ≤ roomB ∧ k = size ∧ k2 = size ∧ mr ≤ e ∧ i + len ≤ e ∧ e ≤ elems.length then
                if clip then
                  some (.ms h.length (len + (xs.length + 1)) 0 (len + (xs.length + 1)) size false, h ++ [.row size ((elems.drop i).take len ++ (x :: xs)) 0])
                else if i = 0 ∧ len = e ∧ e = elems.length then
                  some (.ms o (e + (xs.length + 1)) 0 (len + (xs.length + 1)) size false, h.set o (.row size (elems ++ (x :: xs)) mr))
                else none
              else none
            | _ => none
        | _ => none
      | none => none
    | _, _ => none
  | _ => none

def aCopy (P : Program) (dType : TypeId) (d s : AV) (h : Heap) : Option (AV × Heap) :=
  match typ P dType with
  | some (.slice elem) =>
    match szOf P elem with
    | some size =>
      match elemsOf h size s with
      | some xs =>
        if size = 0 then none else
        match d with
        | .ms o e i len k _ =>
          match h[o]? with
          | some (.row k2 elems mr) =>
            if e = elems.length ∧ i + len ≤ e ∧ k = size ∧ k2 = size ∧ mr ≤ e then
              some (.t (.sc (.int .i64 (min xs.length len : Nat))), h.set o (.row size (elems.take i ++ xs.take (min xs.length len) ++ elems.drop (i + min xs.length len)) e))
            else none
          | _ => none
        | .t (.sc (.slice none 0 0)) => some (.t (.sc (.int .i64 0)), h)
        | .t (.sl _ _ []) => some (.t (.sc (.int .i64 0)), h)
        | _ => none
      | none => none
    | none => none
  | _ => none

def aSlice (P : Program) (t : TypeId) (x : AV) (lo hi mx : Option AV) : Option AV :=
  match typ P t, x with
  | some .string, .t (.sc (.string s)) =>
    match mx, optNat 0 lo, optNat s.size hi with
    | none, some l, some u => if l ≤ u ∧ u ≤ s.size then some (.t (.sc (.string (s.extract l u)))) else none
    | _, _, _ => none
  | some (.slice elem), .t (.sl clip k xs) =>
    match szOf P elem, optNat 0 lo, optNat xs.length hi with
    | some size, some l, some u =>
      if l ≤ u ∧ u ≤ xs.length ∧ k = size then
        match mx with
        | none => some (.t (.sl (clip && decide (u = xs.length)) k ((xs.take u).drop l)))
        | some m => match asNat m with
          | some m => if m = u ∧ hi.isSome = true then some (.t (.sl true k ((xs.take u).drop l))) else none
          | none => none
      else none
    | _, _, _ => none
  | some (.slice elem), .t (.sc (.slice none 0 0)) =>
    match szOf P elem, optNat 0 lo, optNat 0 hi, optNat 0 mx with
    | some _, some 0, some 0, some 0 => if mx.isSome = true ∧ hi.isSome = false then none else some x
    | _, _, _, _ => none
  | some (.slice elem), .ms o e i len k clip =>
    match szOf P elem, optNat 0 lo, optNat len hi with
    | some size, some l, some u =>
      if l ≤ u ∧ u ≤ len ∧ k = size then
        match mx with
        | none => some (.ms o e (i + l) (u - l) k (clip && decide (u = len)))
        | some m => match asNat m with
          | some m => if m = u ∧ hi.isSome = true then some (.ms o e (i + l) (u - l) k true) else none
          | none => none
      else none
    | _, _, _ => none
  | _, _ => none

def aLoad (P : Program) (t : TypeId) (a : AV) (h : Heap) : Option AV :=
  match a with
  | .t (.ip cs) => match takeVarT P t cs with | some x => some (.t x) | none => none
  | .ref o e i off => match rowAt h o e i with
    | some v => takeVar P t (v.cells.drop off)
    | none => none
  | _ => none

def aStore (P : Program) (t : TypeId) (a v : AV) (h : Heap) : Option Heap :=
  match a, szOf P t with
  | .ref o e i off, some size =>
    match h[o]? with
    | some (.row k elems mr) =>
      if e = elems.length ∧ v.cells.length = size ∧ mr ≤ e then
        match elems[i]? with
        | some old =>
          if off + size ≤ k ∧ 0 < size ∧ storableAll v.cells = true then some (h.set o (.row k (elems.set i (pack old.isAgg (splice old.cells off v.cells))) e)) else none
        | none => none
      else none
    | _ => none
  | _, _ => none

def aField (P : Program) (s : TypeId) (f : Nat) : Option (TypeId × Nat) :=
  match typ P s with
  | some (.struct fields) => match fields[f]? with
    | some fd => match szOf P fd.type with
      | some (n + 1) => some (fd.type, fd.offset)
      | _ => none
    | none => none
  | _ => none

def aFieldAddr (P : Program) (s : TypeId) (x : AV) (f : Nat) : Option AV :=
  match aField P s f with
  | some (_, off) => match x with
    | .t (.ip cs) => some (.t (.ip (cs.drop off)))
    | .ref o e i k => some (.ref o e i (k + off))
    | _ => none
  | none => none

def aIndexAddr (P : Program) (t : TypeId) (x ix : AV) : Option AV :=
  match typ P t, asNat ix with
  | some (.array len elem), some k =>
    match szOf P elem with
    | some size => if k < len then (match x with
        | .t (.ip cs) => some (.t (.ip (cs.drop (k * size))))
        | .ref o e i off => some (.ref o e i (off + k * size))
        | _ => none) else none
    | none => none
  | some (.slice elem), some j =>
    match x, szOf P elem with
    | .t (.sl _ k xs), some size => match xs[j]? with
      | some v => if k = size then some (.t (.ip v.cells)) else none
      | none => none
    | .ms o e i len k _, some size => if j < len ∧ k = size then some (.ref o e (i + j) 0) else none
    | _, _ => none
  | _, _ => none

def aIndex (P : Program) (t : TypeId) (x ix : AV) : Option AV :=
  match typ P t, asNat ix with
  | some (.array len elem), some k =>
    match szOf P elem, x.isAgg with
    | some size, true => if k < len then takeVar P elem (x.cells.drop (k * size)) else none
    | _, _ => none
  | some .string, some k => match x with
    | .t (.sc (.string s)) => match s[k]? with
      | some b => some (.t (.sc (.int .u8 b.toNat)))
      | none => none
    | _ => none
  | _, _ => none

def placesOf (P : Program) : List Field → Option (List (Nat × Nat))
  | [] => some []
  | f :: r => match szOf P f.type, placesOf P r with
    | some n, some l => some ((f.offset, n) :: l)
    | _, _ => none

def aBuild (P : Program) (t : TypeId) (parts : List (Nat × AV)) : Option AV :=
  match zeroOf P t with
  | some z =>
    match typ P t with
    | some (.struct fields) =>
      match placesOf P fields.toList with
      | some places => match fill (fun i => places[i]?) (AV.t z).cells parts with
        | some cs => some (mkAgg cs)
        | none => none
      | none => none
    | some (.array _ elem) =>
      match szOf P elem with
      | some size => match fill (fun i => some (i * size, size)) (AV.t z).cells parts with
        | some cs => some (mkAgg cs)
        | none => none
      | none => none
    | _ => none
  | none => none

def eqFields (P : Program) (eq : TypeId → T → T → Option Bool) (xs ys : List T) : List Field → Option Bool
  | [] => some true
  | f :: r =>
    if f.name = "_" then none else
    match takeVarT P f.type (xs.drop f.offset), takeVarT P f.type (ys.drop f.offset) with
    | some x, some y => match eq f.type x y, eqFields P eq xs ys r with
      | some a, some b => some (a && b)
      | _, _ => none
    | _, _ => none

def eqElems (P : Program) (eq : T → T → Option Bool) (elem : TypeId) (size : Nat) (xs ys : List T) : List Nat → Option Bool
  | [] => some true
  | i :: r =>
    match takeVarT P elem (xs.drop (i * size)), takeVarT P elem (ys.drop (i * size)) with
    | some x, some y => match eq x y, eqElems P eq elem size xs ys r with
      | some a, some b => some (a && b)
      | _, _ => none
    | _, _ => none

/-- a == b: ints, bools, strings, and structs and arrays of these. -/
def eqIn (P : Program) : Nat → TypeId → T → T → Option Bool
  | 0, _, _, _ => none
  | d + 1, t, x, y =>
    match typ P t, x, y with
    | some .bool, .sc (.bool a), .sc (.bool b) => some (a == b)
    | some (.int _), .sc (.int k a), .sc (.int k' b) => if k = k' then some (a == b) else none
    | some .string, .sc (.string a), .sc (.string b) => some (a == b)
    | some (.struct fs), .agg xs, .agg ys => if P.stoodInHeld t then none else eqFields P (eqIn P d) xs ys fs.toList
    | some (.array len elem), .agg xs, .agg ys => match szOf P elem with
      | some size => eqElems P (eqIn P d elem) elem size xs ys (List.range len)
      | none => none
    | _, _, _ => none

def keyFields (P : Program) (ok : TypeId → T → Bool) (xs : List T) : List Field → Bool
  | [] => true
  | f :: r =>
    (if f.name = "_" then true else match takeVarT P f.type (xs.drop f.offset) with
      | some x => ok f.type x
      | none => false) && keyFields P ok xs r

/-- A key that can be asked for without a panic. -/
def keyOk (P : Program) : Nat → TypeId → T → Bool
  | 0, _, _ => false
  | d + 1, t, x =>
    match typ P t, x with
    | some (.int _), .sc _ => true
    | some .string, .sc _ => true
    | some .bool, .sc _ => true
    | some (.struct fs), .agg xs => keyFields P (keyOk P d) xs fs.toList
    | _, _ => false

/-- Where a key stands among a map's entries. -/
def findE (P : Program) (kt : TypeId) (k : Value) : List (Value × AV) → Nat → Option (Option Nat)
  | [], _ => some none
  | (k', _) :: r, i => if okVal k' then (match eqIn P 20 kt (ofVal k) (ofVal k') with
    | some true => if Instr.sameBits 10000 k' k then some (some i) else none
    | some false => findE P kt k r (i + 1)
    | none => none) else none

def aLookup (P : Program) (t : TypeId) (x ix : AV) (ok : Bool) (h : Heap) : Option AV :=
  match typ P t, x, ix.val? with
  | some (.map kt elem), .mp m, some k => match h[m]? with
    | some (.map es) =>
      if okVal k && keyOk P 20 kt (ofVal k) then
        match findE P kt k es 0 with
        | some (some i) => match es[i]? with
          | some (_, y) => some (if ok then mkTup [y, .t (.sc (.bool true))] else y)
          | none => none
        | some none => match zeroOf P elem with
          | some z => some (if ok then mkTup [.t z, .t (.sc (.bool false))] else .t z)
          | none => none
        | none => none
      else none
    | _ => none
  | _, _, _ => none

def aMapSet (P : Program) (t : TypeId) (x ix y : AV) (h : Heap) : Option Heap :=
  match typ P t, x, ix.val? with
  | some (.map kt _), .mp m, some k => match h[m]? with
    | some (.map es) =>
      if okVal k && keyOk P 20 kt (ofVal k) then
        match findE P kt k es 0 with
        | some (some i) => some (h.set m (.map (es.set i (k, y))))
        | some none => some (h.set m (.map (es ++ [(k, y)])))
        | none => none
      else none
    | _ => none
  | _, _, _ => none

def isSliceT (P : Program) (t : TypeId) : Bool := match typ P t with | some (.slice _) => true | _ => false

def aEq (P : Program) (t : TypeId) (x y : AV) : Option Bool :=
  match x, y with
  | .t (.agg xs), .t (.agg ys) => if P.eqGuardType P.depth t then none else eqIn P 20 t (.agg xs) (.agg ys)
  | .t (.sc (.slice none 0 0)), .t (.sc (.slice none 0 0)) => if isSliceT P t then some true else none
  | .t (.sl _ _ (_ :: _)), .t (.sc (.slice none 0 0)) => if isSliceT P t then some false else none
  | .t (.sc (.slice none 0 0)), .t (.sl _ _ (_ :: _)) => if isSliceT P t then some false else none
  | .ms _ _ _ (_ + 1) _ _, .t (.sc (.slice none 0 0)) => if isSliceT P t then some false else none
  | .t (.sc (.slice none 0 0)), .ms _ _ _ (_ + 1) _ _ => if isSliceT P t then some false else none
  | _, _ => none

def aBin (P : Program) (op : BinOp) (t : TypeId) (ox oy : Operand) (x y : AV) : Option AV :=
  match x, y with
  | .t (.sc (.slice _ _ _)), _ => match op with
    | .eql => match aEq P t x y with | some b => some (.t (.sc (.bool b))) | none => none
    | .neq => match aEq P t x y with | some b => some (.t (.sc (.bool !b))) | none => none
    | _ => none
  | .t (.sc a), .t (.sc b) => match pureRun P (do eqGuard op t ox oy a b; binOp op t a b) with
    | some v => if okVal v then some (.t (ofVal v)) else none
    | none => none
  | _, _ => match op with
    | .eql => match aEq P t x y with | some b => some (.t (.sc (.bool b))) | none => none
    | .neq => match aEq P t x y with | some b => some (.t (.sc (.bool !b))) | none => none
    | _ => none

def zipT (ρ : Operand → AV) : List (Nat × Operand) → List (Nat × AV)
  | [] => []
  | (i, x) :: r => (i, ρ x) :: zipT ρ r

def aBuiltin (P : Program) (b : Builtin) (argTypes : List TypeId) (type : TypeId) (args : List AV) (h : Heap) : Option Res :=
  match b, args with
  | .len, [x] =>
    match argTypes with
    | [t] => match typ P t with
      | some (.slice _) => match lenOf x with
        | some n => some (.val (.t (.sc (.int .i64 n))) h)
        | none => none
      | some .string => match x with
        | .t (.sc (.string s)) => some (.val (.t (.sc (.int .i64 s.size))) h)
        | _ => none
      | some (.array n _) => some (.val (.t (.sc (.int .i64 n))) h)
      | some (.pointer a) => match typ P a with
        | some (.array n _) => some (.val (.t (.sc (.int .i64 n))) h)
        | _ => none
      | some (.map _ _) => match x with
        | .mp o => match h[o]? with
          | some (.map es) => some (.val (.t (.sc (.int .i64 es.length))) h)
          | _ => none
        | _ => none
      | _ => none
    | _ => none
  | .append, [s, x] => match argTypes with
    | [t, u] => match typ P u with
      | some (.slice _) => match aAppend P t s x h with | some (v, h') => some (.val v h') | none => none
      | _ => none
    | _ => none
  | .copy, [d, s] => match argTypes with
    | t :: _ => match aCopy P t d s h with | some (v, h') => some (.val v h') | none => none
    | [] => none
  | .min, [.t (.sc (.int k a)), .t (.sc (.int _ b))] => some (.val (.t (.sc (.int k (if b < a then b else a)))) h)
  | .max, [.t (.sc (.int k a)), .t (.sc (.int _ b))] => some (.val (.t (.sc (.int k (if a < b then b else a)))) h)
  | _, _ => none

def callOf (first : List AV) (f : Fn) (captured args : List AV) : Option Res :=
  match f with
  | .func g => some (.call (.fn g) (first ++ args ++ captured))
  | _ => none

def aCallee (x : AV) (args : List AV) : Option Res :=
  match x with
  | .t (.fn f first captured) => callOf (first.map .t) f (captured.map .t) args
  | .fn f first captured => callOf first f captured args
  | .yl o => some (.call (.yl o) args)
  | _ => none

def aOp (P : Program) (pol : Pol) (f : FuncId) (ρ : Operand → AV) (h : Heap) (o : Oper) : Option Res :=
  let d := o.dst.getD 0
  let v (x : Option AV) : Option Res := match x with | some v => some (.val v h) | none => none
  match o.op with
  | .move x => some (.val (ρ x) h)
  | .assign x =>
    if pol.grow f d then
      match ρ x, typ P o.type with
      | .t (.sc (.slice none 0 0)), some (.slice elem) => match szOf P elem with
        | some size => some (.val (.ms h.length 0 0 0 size false) (h ++ [.row size [] 0]))
        | none => none
      | y, _ => some (.val y h)
    else some (.val (ρ x) h)
  | .pick c a b => match ρ c with
    | .t (.sc (.bool c)) => match ρ a, ρ b with
      | .t (.sc (.bool x)), .t (.sc (.bool y)) => some (.val (.t (.sc (.bool (if c then x else y)))) h)
      | x, y => some (.val (if c then x else y) h)
    | _ => none
  | .alloc t => if pol.grow f d then (match zeroOf P t, typ P t with
      | some (.sc (.slice none 0 0)), some (.slice elem) => match szOf P elem with
        | some size => some (.val (.ref (h.length + 1) 1 0 0) (h ++ [.row size [] 0, .row 1 [.ms h.length 0 0 0 size false] 0]))
        | none => none
      | _, _ => none) else match zeroOf P t with
    | some z => if storableAll (AV.t z).cells then some (.val (.ref h.length 1 0 0) (h ++ [.row (AV.t z).cells.length [.t z] 0])) else none
    | none => none
  | .box t x => if pol.grow f d then (match ρ x, typ P t with
      | .t (.sc (.slice none 0 0)), some (.slice elem) => match szOf P elem with
        | some size => some (.val (.ref (h.length + 1) 1 0 0) (h ++ [.row size [] 0, .row 1 [.ms h.length 0 0 0 size false] 0]))
        | none => none
      | y, _ => if storableAll y.cells && !y.cells.isEmpty then some (.val (.ref h.length 1 0 0) (h ++ [.row y.cells.length [y] 0])) else none) else match pol.isMut f d, ρ x with
    | false, .t y => if storableAll (AV.t y).cells then some (.val (.t (.ip y.cells)) h) else none
    | _, y => if storableAll y.cells && !y.cells.isEmpty then some (.val (.ref h.length 1 0 0) (h ++ [.row y.cells.length [y] 0])) else none
  | .build t parts => v (aBuild P t (zipT ρ parts.toList))
  | .buildSlice t len parts => match typ P t with
    | some (.slice elem) => match szOf P elem, zeroOf P elem with
      | some size, some z =>
        if size = 0 ∨ 16777216 < len * size ∨ (AV.t z).cells.length ≠ size ∨ storableAll (AV.t z).cells = false then none else
        match fillElems size (List.replicate len (.t z)) (zipT ρ parts.toList) with
        | some elems => match pol.isMut f d, allT elems with
          | false, some ts => some (.val (.t (.sl true size ts)) h)
          | _, _ => some (.val (.ms h.length len 0 len size true) (h ++ [.row size elems 0]))
        | none => none
      | _, _ => none
    | _ => none
  | .load t a => v (aLoad P t (ρ a) h)
  | .store t a x => match aStore P t (ρ a) (ρ x) h with
    | some h' => some (.skip h')
    | none => none
  | .nilCheck x => match ρ x with
    | .t (.ip cs) => some (.val (.t (.ip cs)) h)
    | .t (.fn (.func g) a b) => some (.val (.t (.fn (.func g) a b)) h)
    | .ref o e i k => some (.val (.ref o e i k) h)
    | .fn (.func g) a b => some (.val (.fn (.func g) a b) h)
    | .yl o => some (.val (.yl o) h)
    | _ => none
  | .binOp op t x y _ => v (aBin P op t x y (ρ x) (ρ y))
  | .unOp op _ x => match ρ x with
    | .t (.sc a) => match pureRun P (Op.unary op a) with
      | some r => if okVal r then some (.val (.t (ofVal r)) h) else none
      | none => none
    | _ => none
  | .convert s t x => match ρ x with
    | .t (.sc a) => match pureRun P (convert s t a) with
      | some r => if okVal r then some (.val (.t (ofVal r)) h) else none
      | none => none
    | _ => none
  | .makeFunc fn first captured =>
    match allT (first.toList.map ρ), allT (captured.toList.map ρ) with
    | some a, some b => some (.val (.t (.fn fn a b)) h)
    | _, _ => some (.val (.fn fn (first.toList.map ρ) (captured.toList.map ρ)) h)
  | .makeMap _ none => some (.val (.mp h.length) (h ++ [.map []]))
  | .makeSlice t l c => match typ P t with
    | some (.slice elem) => match szOf P elem, byOf P elem, zeroOf P elem, asNat (ρ l), asNat (ρ c) with
      | some size, some bytes, some z, some n, some m =>
        if size ≠ 0 ∧ (AV.t z).cells.length = size ∧ storableAll (AV.t z).cells = true ∧ n ≤ m ∧ bytes * m ≤ roomB ∧ m ≤ 9223372036854775807 then
          some (.val (.ms h.length n 0 n size (decide (n = m))) (h ++ [.row size (List.replicate n (.t z)) 0])) else none
      | _, _, _, _, _ => none
    | _ => none
  | .slice t x lo hi mx => v (aSlice P t (ρ x) (lo.map ρ) (hi.map ρ) (mx.map ρ))
  | .fieldAddr s x fi => v (aFieldAddr P s (ρ x) fi)
  | .field s x fi => match aField P s fi, (ρ x).isAgg with
    | some (t, off), true => v (takeVar P t ((ρ x).cells.drop off))
    | _, _ => none
  | .indexAddr t x ix => v (aIndexAddr P t (ρ x) (ρ ix))
  | .index t x ix => v (aIndex P t (ρ x) (ρ ix))
  | .lookup t x ix ok => v (aLookup P t (ρ x) (ρ ix) ok h)
  | .mapUpdate t m k x => match aMapSet P t (ρ m) (ρ k) (ρ x) h with
    | some h' => some (.skip h')
    | none => none
  | .insert t m k x => match aMapSet P t (ρ m) (ρ k) (ρ x) h with
    | some h' => some (.skip h')
    | none => none
  | .extract x i => match ρ x with
    | .t (.tup vs) => match vs[i]? with | some y => some (.val (.t y) h) | none => none
    | .tup vs => v vs[i]?
    | _ => none
  | .call c => match c.callee with
    | .builtin b => aBuiltin P b c.argTypes.toList o.type (c.args.toList.map ρ) h
    | .value g => aCallee (ρ g) (c.args.toList.map ρ)
    | .invoke _ _ => none
  | _ => none

def evalOperand (pol : Pol) (env : Env) : Operand → AV
  | .tmp t => env.getD t .dead
  | .const v => if okVal v then .t (ofVal v) else .dead
  | .global g => match pol.glob g with | some x => .t x | none => .dead
  | .func f => .t (.fn (.func f) [] [])

/-! ### Snapshots -/

mutual
/-- Does the value name no object of p? -/
def avoid (p : Nat → Bool) : AV → Bool
  | .t _ => true
  | .ref o _ _ _ => !p o
  | .ms o _ _ _ _ _ => !p o
  | .mp o => !p o
  | .yl o => !p o
  | .dead => true
  | .agg cs => avoidAll p cs
  | .tup cs => avoidAll p cs
  | .fn _ a b => avoidAll p a && avoidAll p b
def avoidAll (p : Nat → Bool) : List AV → Bool
  | [] => true
  | v :: r => avoid p v && avoidAll p r
end

def mapO {α β : Type} (f : α → Option β) : List α → Option (List β)
  | [] => some []
  | a :: r => match f a, mapO f r with
    | some b, some bs => some (b :: bs)
    | _, _ => none

/-- A value as a tree: every object that it names is one of p, and read as it stands now. -/
def snap (h : Heap) (p : Nat → Bool) : Nat → AV → Option T
  | 0, .t x => some x
  | 0, _ => none
  | _ + 1, .t x => some x
  | d + 1, .agg cs => match mapO (snap h p d) cs with | some ts => some (.agg ts) | none => none
  | d + 1, .tup cs => match mapO (snap h p d) cs with | some ts => some (.tup ts) | none => none
  | d + 1, .fn f a b => match mapO (snap h p d) a, mapO (snap h p d) b with | some x, some y => some (.fn f x y) | _, _ => none
  | d + 1, .ref o e i off => if p o then (match rowAt h o e i with
    | some v => match mapO (snap h p d) v.cells with | some ts => some (.ip (ts.drop off)) | none => none
    | none => none) else none
  | d + 1, .ms o e i len k clip => if p o then (match elemsOf h k (.ms o e i len k clip) with
    | some es => match mapO (snap h p d) es with | some ts => some (.sl clip k ts) | none => none
    | none => none) else none
  | _ + 1, _ => none

def allObj : Nat → Bool := fun _ => true

def frzCell (h : Heap) (p : Nat → Bool) (v : AV) : Option AV :=
  if avoid p v then some v else match snap h p 20 v with | some x => some (.t x) | none => none

/-- A value with what it names of p turned into trees. -/
def frz (h : Heap) (p : Nat → Bool) (v : AV) : Option AV :=
  match v with
  | .agg cs => if avoidAll p cs then some v else match mapO (frzCell h p) cs with
    | some cs => some (mkAgg cs)
    | none => none
  | v => frzCell h p v

def T.plain : T → Bool
  | .sc _ => true
  | .agg cs => cs.all fun | .sc _ => true | _ => false
  | .tup vs => vs.all fun | .sc _ => true | .agg cs => (cs.all fun | .sc _ => true | _ => false) | _ => false
  | _ => false

abbrev Oracle := FuncId → List T → Option T
abbrev Inl := Tgt → List AV → Heap → Option (AV × Heap)

/-- A call: in the caller's heap, or pure through the oracle. -/
def aCall (pol : Pol) (K : Oracle) (I : Inl) (at_ : FuncId) (d : Tmp) (g : Tgt) (args : List AV) (h : Heap) : Option (AV × Heap) :=
  match g with
  | .yl o => I (.yl o) args h
  | .fn f =>
    if pol.inl f at_ d then I (.fn f) args h else
    match allT args with
    | some ts => match K f ts with | some r => some (.t r, h) | none => none
    | none => match mapO (snap h allObj 20) args with
      | some ts => match K f ts with | some r => if r.plain then some (.t r, h) else none | none => none
      | none => I (.fn f) args h

def put (env : Env) : Option Tmp → AV → Env
  | some d, v => env.set d v
  | none, _ => env

def frzEnv (h : Heap) (p : Nat → Bool) (env : Env) : Env := env.map fun v => match frz h p v with | some v => v | none => .dead

def frzEntry (h : Heap) (p : Nat → Bool) (kv : Value × AV) : Option (Value × AV) :=
  match frz h p kv.2 with | some v => some (kv.1, v) | none => none

def frzObj (h : Heap) (p : Nat → Bool) (x : AObj) : Option AObj :=
  match x with
  | .row k es mr => if avoidAll p es then some x else match mapO (frz h p) es with | some es => some (.row k es mr) | none => none
  | .map es => if es.all (fun kv => avoid p kv.2) then some x else match mapO (frzEntry h p) es with | some es => some (.map es) | none => none
  | .loop _ env _ _ _ _ _ => if avoidAll p env then some x else none
  | .gone => some .gone

def fromB (n : Nat) : Nat → Bool := fun o => decide (n ≤ o)

/-- Behind a round: what it allocated is dropped; what still names it reads it as a tree. -/
def shrink (n : Nat) (env : Env) (h : Heap) : Option (Env × Heap) :=
  if h.length ≤ n then some (env, h)
  else match mapO (frzObj h (fromB n)) (h.take n) with
    | some h' => some (frzEnv h (fromB n) env, h')
    | none => none

mutual
/-- The objects that a value names. -/
def names : AV → List Nat
  | .t _ => []
  | .ref o _ _ _ => [o]
  | .ms o _ _ _ _ _ => [o]
  | .mp o => [o]
  | .yl o => [o]
  | .dead => []
  | .agg cs => namesAll cs
  | .tup cs => namesAll cs
  | .fn _ a b => namesAll a ++ namesAll b
def namesAll : List AV → List Nat
  | [] => []
  | v :: r => names v ++ namesAll r
end

def namesObj : Option AObj → List Nat
  | some (.row _ es _) => namesAll es
  | some (.map es) => es.flatMap fun kv => names kv.2
  | _ => []

/-- The objects that can be reached from a list of objects, d links deep. -/
def reach (h : Heap) : Nat → List Nat → List Nat
  | 0, os => os
  | d + 1, os => os ++ (match os.flatMap (fun o => namesObj h[o]?) with
    | [] => []
    | ms => reach h d ms)

def goneOf (h : Heap) (p : Nat → Bool) : Nat → Heap → Option Heap
  | _, [] => some []
  | i, x :: r => match (if p i then some .gone else frzObj h p x), goneOf h p (i + 1) r with
    | some y, some ys => some (y :: ys)
    | _, _ => none

/-- The objects of os become trees, wherever they are named. -/
def freeze (os : List Nat) (env : Env) (h : Heap) : Option (Env × Heap) :=
  match goneOf h (fun o => os.contains o) 0 h with
  | some h' => some (frzEnv h (fun o => os.contains o) env, h')
  | none => none

def guardOk (ops : List Oper) (env : Env) : Option (Nat × Bool) → Option Bool
  | none => some true
  | some (j, want) =>
    match ops[j]? with
    | some o => match o.dst with
      | some d => match env.getD d .dead with
        | .t (.sc (.bool b)) => some (b == want)
        | .t (.sc _) => some false
        | _ => none
      | none => none
    | none => none

/-- One operation, its guard true. -/
def aStep1 (P : Program) (pol : Pol) (K : Oracle) (I : Inl) (f : FuncId) (o : Oper) (env : Env) (h : Heap) : Option (Env × Heap) :=
  match aOp P pol f (evalOperand pol env) h o with
  | some (.val v h') => some (put env o.dst v, h')
  | some (.skip h') => some (put env o.dst (.t (.sc undef)), h')
  | some (.call g args) => match aCall pol K I f (o.dst.getD 0) g args h with
    | some (v, h') => some (put env o.dst v, h')
    | none => none
  | none => none

/-- What the operands of an operation name is turned into trees first, where the policy says so. -/
def aStep (P : Program) (pol : Pol) (K : Oracle) (I : Inl) (f : FuncId) (o : Oper) (env : Env) (h : Heap) : Option (Env × Heap) :=
  if pol.frz f (o.dst.getD 0) then
    match freeze (reach h 20 (namesAll (o.op.operands.toList.map (evalOperand pol env)))) env h with
    | some (env', h') => aStep1 P pol K I f o env' h'
    | none => none
  else aStep1 P pol K I f o env h

def aOps (P : Program) (pol : Pol) (K : Oracle) (I : Inl) (f : FuncId) (ops : List Oper) : List Oper → Env → Heap → Option (Env × Heap)
  | [], env, h => some (env, h)
  | o :: rest, env, h =>
    match guardOk ops env o.guard with
    | some b => if b then (match aStep P pol K I f o env h with
        | some (env', h') => aOps P pol K I f ops rest env' h'
        | none => none)
      else aOps P pol K I f ops rest (put env o.dst (.t (.sc undef))) h
    | none => none

inductive Xit where
  | normal
  | exit (id : Nat)
  | ret

def keepOnly (ts : List Tmp) (env : Env) : Env := env.mapIdx fun i v => if ts.contains i then v else .dead

def tidy (live : Option (List Tmp)) (env : Env) : Env :=
  match live with
  | some ts => keepOnly ts env
  | none => env

def iter (n0 : Nat) (live : Option (List Tmp)) (body : Env → Heap → Option (Xit × Env × Heap)) : Nat → Env → Heap → Option (Xit × Env × Heap)
  | 0, _, _ => none
  | n + 1, env, h =>
    match body (tidy live env) h with
    | some (.normal, env', h') => match shrink n0 env' h' with
      | some (env'', h'') => iter n0 live body n env'' h''
      | none => none
    | r => r

def loopOf (h : Heap) (l : Nat) : Option (Option Code) :=
  match h[l]? with
  | some (.loop _ _ _ _ _ false p) => some p
  | _ => none

def objsOf : AV → List Nat
  | .ref o _ _ _ => [o]
  | .ms o _ _ _ _ _ => [o]
  | .mp o => [o]
  | _ => []

/-- The objects that an operation reads or writes; none: any. -/
def touch0 (pol : Pol) (at_ : FuncId) (ρ : Operand → AV) (o : Oper) : Option (List Nat) :=
  match o.op with
  | .load _ a => some (objsOf (ρ a))
  | .store _ a _ => some (objsOf (ρ a))
  | .lookup _ m _ _ => some (objsOf (ρ m))
  | .mapUpdate _ m _ _ => some (objsOf (ρ m))
  | .insert _ m _ _ => some (objsOf (ρ m))
  | .call c => match c.callee with
    | .builtin .append => some (c.args.toList.flatMap fun a => objsOf (ρ a))
    | .builtin .copy => some (c.args.toList.flatMap fun a => objsOf (ρ a))
    | .builtin .len => some (c.args.toList.flatMap fun a => objsOf (ρ a))
    | .builtin _ => some []
    | .value g => match aCallee (ρ g) (c.args.toList.map ρ) with
      | some (.call (.fn f) args) => if pol.inl f at_ (o.dst.getD 0) then none else (match allT args with | some _ => some [] | none => none)
      | _ => none
    | .invoke _ _ => none
  | _ => some []

/-- What an operation touches, and the objects that it makes. -/
def touchN (t : Option (List Nat)) (h h' : Heap) : Option (List Nat) :=
  match t with
  | some l => some (l ++ List.range' h.length (h'.length - h.length))
  | none => none

def apartB : Option (List Nat) → Option (List Nat) → Bool
  | some [], _ => true
  | _, some [] => true
  | some a, some b => a.all fun x => !b.contains x
  | _, _ => false

def critOk (crit : List (Nat × Nat)) (ts : List (Option (List Nat))) : Bool :=
  crit.all fun (i, j) => apartB (ts.getD i none) (ts.getD j none)

/-- The operations of a region that draws its order: in the order of the text, with what each touches. -/
def aOpsD (P : Program) (pol : Pol) (K : Oracle) (I : Inl) (f : FuncId) (ops : List Oper) : List Oper → Env → Heap → Option (Env × Heap × List (Option (List Nat)))
  | [], env, h => some (env, h, [])
  | o :: rest, env, h =>
    match guardOk ops env o.guard with
    | some b => if b then (match aStep1 P pol K I f o env h with
        | some (env', h') => if h'.length < h.length then none else match aOpsD P pol K I f ops rest env' h' with
          | some (env'', h'', ts) => some (env'', h'', touchN (touch0 pol f (evalOperand pol env) o) h h' :: ts)
          | none => none
        | none => none)
      else match aOpsD P pol K I f ops rest (put env o.dst (.t (.sc undef))) h with
          | some (env'', h'', ts) => some (env'', h'', some [] :: ts)
          | none => none
    | none => none

def aCode (P : Program) (pol : Pol) (K : Oracle) (I : Inl) (n : Nat) (f : FuncId) : (bid : Nat) → Code → Env → Heap → Option (Xit × Env × Heap)
  | _, .skip, env, h => some (.normal, env, h)
  | _, .label _, env, h => some (.normal, env, h)
  | _, .region _ ops false, env, h =>
    match aOps P pol K I f ops.toList ops.toList env h with
    | some (env', h') => some (.normal, env', h')
    | none => none
  | _, .region id ops true, env, h =>
    match aOpsD P pol K I f ops.toList ops.toList env h with
    | some (env', h', ts) => if critOk (pol.crit f id) ts then some (.normal, env', h') else none
    | none => none
  | bid, .seq a b, env, h =>
    match aCode P pol K I n f bid a env h with
    | some (.normal, env', h') => aCode P pol K I n f bid b env' h'
    | r => r
  | bid, .cond c a b, env, h =>
    match evalOperand pol env c with
    | .t (.sc (.bool t)) => if t then aCode P pol K I n f bid a env h else aCode P pol K I n f bid b env h
    | _ => none
  | _, .block id c, env, h =>
    match aCode P pol K I n f id c env h with
    | some (.exit j, env', h') => if j = id then some (.normal, env', h') else some (.exit j, env', h')
    | r => r
  | bid, .loop c, env, h => iter h.length (pol.live f bid) (aCode P pol K I n f bid c) n env h
  | bid, .scope c, env, h => aCode P pol K I n f bid c env h
  | _, .exit id, env, h => some (.exit id, env, h)
  | _, .ret, env, h => some (.ret, env, h)
  | bid, .rangeFunc g params assign body, env, h =>
    match aCallee (evalOperand pol env g) [.yl h.length] with
    | some (.call (.fn gf) args) => match I (.fn gf) args (h ++ [.loop f (tidy (pol.live f bid) env) params.toList assign body false none]) with
      | some (_, h2) => match loopOf h2 h.length, shrink h.length env (h2.set h.length .gone) with
        | some none, some (env', h') => some (.normal, env', h')
        | some (some .ret), some (env', h') => some (.ret, env', h')
        | some (some (.exit id)), some (env', h') => some (.exit id, env', h')
        | _, _ => none
      | none => none
    | _ => none
  | _, _, _, _ => none

def aResult (P : Program) (env : Env) (h : Heap) : ResultVar → Option AV
  | .tmp t => some (env.getD t .dead)
  | .cell a t => aLoad P t (env.getD a .dead) h

def aResults (P : Program) (env : Env) (h : Heap) : List ResultVar → Option (List AV)
  | [] => some []
  | r :: rs => match aResult P env h r, aResults P env h rs with
    | some v, some vs => some (v :: vs)
    | _, _ => none

def one (vs : List AV) : AV :=
  match vs with
  | [v] => v
  | vs => mkTup vs

/-- A function's body in a heap. -/
def aBody (P : Program) (pol : Pol) (K : Oracle) (I : Inl) (n : Nat) (f : FuncId) (args : List AV) (h : Heap) : Option (AV × Heap) :=
  match P.funcs[f]? with
  | some fn => match fn.body with
    | some c => match aCode P pol K I n f 0 c (args ++ List.replicate (fn.ntmps - args.length) .dead) h with
      | some (.normal, env, h') => match aResults P env h' fn.results.toList with
        | some vs => some (one vs, h')
        | none => none
      | some (.ret, env, h') => match aResults P env h' fn.results.toList with
        | some vs => some (one vs, h')
        | none => none
      | _ => none
    | none => none
  | none => none

def setAll (env : Env) : List (Tmp × AV) → Env
  | [] => env
  | (t, v) :: r => setAll (env.set t v) r

/-- A round begins. -/
def busyOf (h : Heap) (l : Nat) : Option Heap :=
  match h[l]? with
  | some (.loop f env params assign body false none) => some (h.set l (.loop f env params assign body true none))
  | _ => none

/-- A round ends, with the jump that it leaves. -/
def idleOf (h : Heap) (l : Nat) (jump : Option Code) : Option (AV × Heap) :=
  match h[l]? with
  | some (.loop f env params assign body true none) => some (.t (.sc (.bool jump.isNone)), h.set l (.loop f env params assign body false jump))
  | _ => none

/-- The calls that run in the caller's heap: d bounds how deep they nest. -/
def inl (P : Program) (pol : Pol) (K : Oracle) (n : Nat) : Nat → Inl
  | 0 => fun _ _ _ => none
  | d + 1 => fun g args h =>
    match g with
    | .fn f => aBody P pol K (inl P pol K n d) n f args h
    | .yl l => match h[l]? with
      | some (.loop f env params assign body false none) =>
        if args.length ≠ params.length then none else
        match aCode P pol K (inl P pol K n d) n f 0 assign (setAll env (params.zip args)) h with
        | some (.normal, env1, h1) => match busyOf h1 l with
          | some h1 => match aCode P pol K (inl P pol K n d) n f 0 body env1 h1 with
            | some (.normal, _, h2) => idleOf h2 l none
            | some (.ret, _, h2) => idleOf h2 l (some .ret)
            | some (.exit id, _, h2) => idleOf h2 l (some (.exit id))
            | none => none
          | none => none
        | _ => none
      | _ => none

/-- A function called with trees, in an empty heap; its result is a tree. -/
def runTop (P : Program) (pol : Pol) (K : Oracle) (n d : Nat) (f : FuncId) (args : List T) : Option T :=
  match aBody P pol K (inl P pol K n d) n f (args.map .t) [] with
  | some (r, h) => snap h allObj 20 r
  | none => none

/-- The evaluator over itself, for closed calls. -/
def runN (P : Program) (pol : Pol) (loops : Nat) : Nat → Oracle
  | 0 => fun _ _ => none
  | m + 1 => fun f args => runTop P pol (runN P pol loops m) loops m f args

end Go.Abs
