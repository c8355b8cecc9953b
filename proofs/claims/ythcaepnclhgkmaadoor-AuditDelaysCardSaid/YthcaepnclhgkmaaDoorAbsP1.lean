/- The abstract evaluator, how its values stand for the model's, and that every operation but calls is what the model does. -/
import GoSem.Step
import Derived.Laws.World
import Derived.Laws.Sem
import Derived.RangeFuncLeaves
import Derived.Laws.Tables
import Derived.ChangeKeysEq
import Derived.RangeFuncRecord
import Derived.Laws.Append
import Derived.Laws.IdiomStrings
set_option linter.unusedVariables false
set_option linter.unusedSimpArgs false
set_option linter.unusedSectionVars false

/- The abstract evaluator: values as trees, a small heap of mutable objects, an oracle for pure calls. Nothing here speaks of the machine; the soundness is in the next texts. -/
namespace Go.Abs
open Go

inductive T where
  | sc (v : Value)
  | agg (cells : List T)
  | sl (clip : Bool) (k : Nat) (elems : List T)
  | ip (cells : List T)
  | fn (f : Fn) (first captured : List T)
  | tup (vs : List T)
  deriving Inhabited

inductive AV where
  | t (x : T)
  | agg (cells : List AV)
  | tup (vs : List AV)
  | ref (o e i off : Nat)
  | ms (o e i len k : Nat) (clip : Bool)
  | mp (o : Nat)
  | yl (o : Nat)
  | fn (f : Fn) (first captured : List AV)
  | dead
  deriving Inhabited

inductive AObj where
  | row (k : Nat) (elems : List AV) (mr : Nat)
  | map (entries : List (Value × AV))
  | loop (f : FuncId) (env : List AV) (params : List Tmp) (assign body : Code) (busy : Bool) (pending : Option Code)
  | gone
  deriving Inhabited

abbrev Env := List AV
abbrev Heap := List AObj

/-- How the evaluator treats the sites of one program: which boxes and literals are mutable, which nil constants open a growing slice, which functions run in the caller's heap. -/
structure Pol where
  isMut : FuncId → Tmp → Bool
  grow : FuncId → Tmp → Bool
  inl : FuncId → FuncId → Tmp → Bool
  frz : FuncId → Tmp → Bool
  live : FuncId → Nat → Option (List Tmp)
  crit : FuncId → Nat → List (Nat × Nat)
  glob : Nat → Option T
  prim : FuncId → Bool := fun _ => false
  orc : FuncId → List T → Option T := fun _ _ => none

def T.cells : T → List T
  | .agg cs => cs
  | x => [x]

def AV.cells : AV → List AV
  | .t (.agg cs) => cs.map .t
  | .agg cs => cs
  | .dead => []
  | v => [v]

def AV.t? : AV → Option T
  | .t x => some x
  | _ => none

def allT : List AV → Option (List T)
  | [] => some []
  | .t x :: r => match allT r with
    | some xs => some (x :: xs)
    | none => none
  | _ :: _ => none

def mkAgg (cs : List AV) : AV :=
  match allT cs with
  | some ts => .t (.agg ts)
  | none => .agg cs

def mkTup (cs : List AV) : AV :=
  match allT cs with
  | some ts => .t (.tup ts)
  | none => .tup cs

def noAgg : Value → Bool
  | .agg _ => false
  | _ => true

/-- A plain value, or an aggregate of plain values. -/
def okVal : Value → Bool
  | .agg cs => cs.toList.all noAgg
  | _ => true

def ofVal : Value → T
  | .agg cs => .agg (cs.toList.map .sc)
  | v => .sc v

def scVals : List T → Option (List Value)
  | [] => some []
  | .sc v :: r => match scVals r with
    | some vs => some (v :: vs)
    | none => none
  | _ :: _ => none

def T.val? : T → Option Value
  | .sc v => some v
  | .agg cs => match scVals cs with
    | some vs => some (.agg vs.toArray)
    | none => none
  | _ => none

def AV.val? : AV → Option Value
  | .t x => x.val?
  | _ => none

/-- The pure part of the model's monad: no memory, no choice. -/
def pureRun {α : Type} (P : Program) : Sem α → Option α
  | .pure a => some a
  | .program k => pureRun P (k P)
  | _ => none

def typ (P : Program) (t : TypeId) : Option TypeDesc := P.underlying t
def szOf (P : Program) (t : TypeId) : Option Nat := match P.info? t with | some i => some i.size | none => none
def byOf (P : Program) (t : TypeId) : Option Nat := match P.info? t with | some i => some i.bytes | none => none
def zeroOf (P : Program) (t : TypeId) : Option T := match P.info? t with | some i => (match i.zero with | some v => if okVal v then some (ofVal v) else none | none => none) | none => none
def aggB (P : Program) (t : TypeId) : Option Bool := match P.underlying t with | some (.struct _) => some true | some (.array _ _) => some true | some _ => some false | none => none

/-- The value of a variable of type t at the head of the cells cs. -/
def takeVar (P : Program) (t : TypeId) (cs : List AV) : Option AV :=
  match aggB P t, szOf P t with
  | some true, some n => if n ≤ cs.length then some (mkAgg (cs.take n)) else none
  | some false, _ => cs.head?
  | _, _ => none

def takeVarT (P : Program) (t : TypeId) (cs : List T) : Option T :=
  match aggB P t, szOf P t with
  | some true, some n => if n ≤ cs.length then some (.agg (cs.take n)) else none
  | some false, _ => cs.head?
  | _, _ => none

/-- cs with vs laid over it from place off on. -/
def splice (cs : List AV) (off : Nat) (vs : List AV) : List AV := cs.take off ++ vs ++ cs.drop (off + vs.length)

/-- A variable's new value out of its cells: where the variable is no aggregate, its one cell. -/
def pack (isAgg : Bool) (cs : List AV) : AV :=
  match isAgg, cs with
  | false, [c] => c
  | _, _ => mkAgg cs

def AV.isAgg : AV → Bool
  | .t (.agg _) => true
  | .agg _ => true
  | _ => false

/-- May the value lie in one cell of memory? -/
def okCell : Value → Bool
  | .agg _ => false
  | .tuple _ => false
  | _ => true

def storable : AV → Bool
  | .t (.sc v) => okCell v
  | .t (.agg _) => false
  | .t (.tup _) => false
  | .t _ => true
  | .agg _ => false
  | .tup _ => false
  | .dead => false
  | _ => true

def storableAll : List AV → Bool
  | [] => true
  | v :: r => storable v && storableAll r

def nilSlice : Value := .slice none 0 0

def fill (place : Nat → Option (Nat × Nat)) (cells : List AV) : List (Nat × AV) → Option (List AV)
  | [] => some cells
  | (i, v) :: rest =>
    match place i with
    | none => none
    | some (off, size) =>
      if v.cells.length = size ∧ 0 < size ∧ off + size ≤ cells.length then fill place (splice cells off v.cells) rest else none

def fillElems (size : Nat) (elems : List AV) : List (Nat × AV) → Option (List AV)
  | [] => some elems
  | (i, v) :: rest => if v.cells.length = size ∧ 0 < size ∧ i < elems.length ∧ storableAll v.cells = true then fillElems size (elems.set i v) rest else none

def asNat : AV → Option Nat
  | .t (.sc (.int _ n)) => if 0 ≤ n then some n.toNat else none
  | _ => none

def optNat (d : Nat) : Option AV → Option Nat
  | none => some d
  | some v => asNat v

inductive Tgt where
  | fn (f : FuncId)
  | yl (o : Nat)

/-- What one operation comes to: a value, or a call. -/
inductive Res where
  | val (v : AV) (h : Heap)
  | skip (h : Heap)
  | call (g : Tgt) (args : List AV)

def rowAt (h : Heap) (o e i : Nat) : Option AV :=
  match h[o]? with
  | some (.row _ elems mr) => if mr ≤ e ∧ i < e ∧ e ≤ elems.length then elems[i]? else none
  | _ => none

/-- The elements that a slice value of elements of size cells reads as. -/
def elemsOf (h : Heap) (size : Nat) : AV → Option (List AV)
  | .t (.sl _ _ []) => some []
  | .t (.sl _ k (x :: xs)) => if k = size then some ((x :: xs).map .t) else none
  | .t (.sc (.slice _ 0 _)) => some []
  | .ms o e i len k _ => match h[o]? with
    | some (.row _ elems mr) => if k = size ∧ mr ≤ e ∧ e ≤ elems.length ∧ i + len ≤ e then some ((elems.drop i).take len) else none
    | _ => none
  | _ => none

def lenOf : AV → Option Nat
  | .t (.sl _ _ xs) => some xs.length
  | .t (.sc (.slice none 0 0)) => some 0
  | .ms _ _ _ len _ _ => some len
  | _ => none

def roomB : Nat := 140737488355328

def zeroCells (P : Program) (elem : TypeId) : Option Nat := match zeroOf P elem with | some z => some (AV.t z).cells.length | none => none

def aAppend (P : Program) (sType : TypeId) (s x : AV) (h : Heap) : Option (AV × Heap) :=
  match typ P sType with
  | some (.slice elem) =>
    match szOf P elem, byOf P elem with
    | some size, some bytes =>
      match elemsOf h size x with
      | some xs =>
        if size = 0 ∨ bytes = 0 ∨ zeroCells P elem ≠ some size then none else
        match s with
        | .t (.sc (.slice none 0 0)) =>
          match xs with
          | [] => some (s, h)
          | x :: xs => if (xs.length + 1) * bytes ≤ roomB then some (.ms h.length (xs.length + 1) 0 (xs.length + 1) size false, h ++ [.row size (x :: xs) 0]) else none
        | .t (.sl true k ys) =>
          match xs with
          | [] => some (s, h)
          | x :: xs => if (ys.length + (xs.length + 1)) * bytes ≤ roomB ∧ (k = size ∨ ys = []) then
              some (.ms h.length (ys.length + (xs.length + 1)) 0 (ys.length + (xs.length + 1)) size false, h ++ [.row size (ys.map .t ++ (x :: xs)) 0]) else none
        | .ms o e i len k clip =>
          match xs with
          | [] => some (s, h)
          | x :: xs =>
            match h[o]? with
            | some (.row k2 elems mr) =>
              if (len + (xs.length + 1)) * bytes ≤ roomB ∧ k = size ∧ k2 = size ∧ mr ≤ e ∧ i + len ≤ e ∧ e ≤ elems.length then
                if clip then
                  some (.ms h.length (len + (xs.length + 1)) 0 (len + (xs.length + 1)) size false, h ++ [.row size ((elems.drop i).take len ++ (x :: xs)) 0])
                else if i = 0 ∧ len = e ∧ e = elems.length then
                  some (.ms o (e + (xs.length + 1)) 0 (len + (xs.length + 1)) size false, h.set o (.row size (elems ++ (x :: xs)) mr))
                else none
              else none
            | _ => none
        | _ => none
      | none => none
    | _, _ => none
  | _ => none

def aCopy (P : Program) (dType : TypeId) (d s : AV) (h : Heap) : Option (AV × Heap) :=
  match typ P dType with
  | some (.slice elem) =>
    match szOf P elem with
    | some size =>
      match elemsOf h size s with
      | some xs =>
        if size = 0 then none else
        match d with
        | .ms o e i len k _ =>
          match h[o]? with
          | some (.row k2 elems mr) =>
            if e = elems.length ∧ i + len ≤ e ∧ k = size ∧ k2 = size ∧ mr ≤ e then
              some (.t (.sc (.int .i64 (min xs.length len : Nat))), h.set o (.row size (elems.take i ++ xs.take (min xs.length len) ++ elems.drop (i + min xs.length len)) e))
            else none
          | _ => none
        | .t (.sc (.slice none 0 0)) => some (.t (.sc (.int .i64 0)), h)
        | .t (.sl _ _ []) => some (.t (.sc (.int .i64 0)), h)
        | _ => none
      | none => none
    | none => none
  | _ => none

def aSlice (P : Program) (t : TypeId) (x : AV) (lo hi mx : Option AV) : Option AV :=
  match typ P t, x with
  | some .string, .t (.sc (.string s)) =>
    match mx, optNat 0 lo, optNat s.size hi with
    | none, some l, some u => if l ≤ u ∧ u ≤ s.size then some (.t (.sc (.string (s.extract l u)))) else none
    | _, _, _ => none
  | some (.slice elem), .t (.sl clip k xs) =>
    match szOf P elem, optNat 0 lo, optNat xs.length hi with
    | some size, some l, some u =>
      if l ≤ u ∧ u ≤ xs.length ∧ k = size then
        match mx with
        | none => some (.t (.sl (clip && decide (u = xs.length)) k ((xs.take u).drop l)))
        | some m => match asNat m with
          | some m => if m = u ∧ hi.isSome = true then some (.t (.sl true k ((xs.take u).drop l))) else none
          | none => none
      else none
    | _, _, _ => none
  | some (.slice elem), .t (.sc (.slice none 0 0)) =>
    match szOf P elem, optNat 0 lo, optNat 0 hi, optNat 0 mx with
    | some _, some 0, some 0, some 0 => if mx.isSome = true ∧ hi.isSome = false then none else some x
    | _, _, _, _ => none
  | some (.slice elem), .ms o e i len k clip =>
    match szOf P elem, optNat 0 lo, optNat len hi with
    | some size, some l, some u =>
      if l ≤ u ∧ u ≤ len ∧ k = size then
        match mx with
        | none => some (.ms o e (i + l) (u - l) k (clip && decide (u = len)))
        | some m => match asNat m with
          | some m => if m = u ∧ hi.isSome = true then some (.ms o e (i + l) (u - l) k true) else none
          | none => none
      else none
    | _, _, _ => none
  | _, _ => none

def mapO {α β : Type} (f : α → Option β) : List α → Option (List β)
  | [] => some []
  | a :: r => match f a, mapO f r with
    | some b, some bs => some (b :: bs)
    | _, _ => none

/-- A byte as a tree. -/
def byteOf : T → Option UInt8
  | .sc (.int .u8 n) => if 0 ≤ n ∧ n < 256 then some (UInt8.ofNat n.toNat) else none
  | _ => none
/-- The text that a slice of bytes becomes. -/
def textOf (P : Program) (s t : TypeId) (xs : List T) : Option AV :=
  match typ P s, typ P t with
  | some (.slice e), some .string => match typ P e, mapO byteOf xs with
    | some (.int .u8), some l => some (.t (.sc (.string ⟨l.toArray⟩)))
    | _, _ => none
  | _, _ => none

def aLoad (P : Program) (t : TypeId) (a : AV) (h : Heap) : Option AV :=
  match a with
  | .t (.ip cs) => match takeVarT P t cs with | some x => some (.t x) | none => none
  | .ref o e i off => match rowAt h o e i with
    | some v => takeVar P t (v.cells.drop off)
    | none => none
  | _ => none

def aStore (P : Program) (t : TypeId) (a v : AV) (h : Heap) : Option Heap :=
  match a, szOf P t with
  | .ref o e i off, some size =>
    match h[o]? with
    | some (.row k elems mr) =>
      if e = elems.length ∧ v.cells.length = size ∧ mr ≤ e then
        match elems[i]? with
        | some old =>
          if off + size ≤ k ∧ 0 < size ∧ storableAll v.cells = true then some (h.set o (.row k (elems.set i (pack old.isAgg (splice old.cells off v.cells))) e)) else none
        | none => none
      else none
    | _ => none
  | _, _ => none

def aField (P : Program) (s : TypeId) (f : Nat) : Option (TypeId × Nat) :=
  match typ P s with
  | some (.struct fields) => match fields[f]? with
    | some fd => match szOf P fd.type with
      | some (n + 1) => some (fd.type, fd.offset)
      | _ => none
    | none => none
  | _ => none

def aFieldAddr (P : Program) (s : TypeId) (x : AV) (f : Nat) : Option AV :=
  match aField P s f with
  | some (_, off) => match x with
    | .t (.ip cs) => some (.t (.ip (cs.drop off)))
    | .ref o e i k => some (.ref o e i (k + off))
    | _ => none
  | none => none

def aIndexAddr (P : Program) (t : TypeId) (x ix : AV) : Option AV :=
  match typ P t, asNat ix with
  | some (.array len elem), some k =>
    match szOf P elem with
    | some size => if k < len then (match x with
        | .t (.ip cs) => some (.t (.ip (cs.drop (k * size))))
        | .ref o e i off => some (.ref o e i (off + k * size))
        | _ => none) else none
    | none => none
  | some (.slice elem), some j =>
    match x, szOf P elem with
    | .t (.sl _ k xs), some size => match xs[j]? with
      | some v => if k = size then some (.t (.ip v.cells)) else none
      | none => none
    | .ms o e i len k _, some size => if j < len ∧ k = size then some (.ref o e (i + j) 0) else none
    | _, _ => none
  | _, _ => none

def aIndex (P : Program) (t : TypeId) (x ix : AV) : Option AV :=
  match typ P t, asNat ix with
  | some (.array len elem), some k =>
    match szOf P elem, x.isAgg with
    | some size, true => if k < len then takeVar P elem (x.cells.drop (k * size)) else none
    | _, _ => none
  | some .string, some k => match x with
    | .t (.sc (.string s)) => match s[k]? with
      | some b => some (.t (.sc (.int .u8 b.toNat)))
      | none => none
    | _ => none
  | _, _ => none

def placesOf (P : Program) : List Field → Option (List (Nat × Nat))
  | [] => some []
  | f :: r => match szOf P f.type, placesOf P r with
    | some n, some l => some ((f.offset, n) :: l)
    | _, _ => none

def aBuild (P : Program) (t : TypeId) (parts : List (Nat × AV)) : Option AV :=
  match zeroOf P t with
  | some z =>
    match typ P t with
    | some (.struct fields) =>
      match placesOf P fields.toList with
      | some places => match fill (fun i => places[i]?) (AV.t z).cells parts with
        | some cs => some (mkAgg cs)
        | none => none
      | none => none
    | some (.array _ elem) =>
      match szOf P elem with
      | some size => match fill (fun i => some (i * size, size)) (AV.t z).cells parts with
        | some cs => some (mkAgg cs)
        | none => none
      | none => none
    | _ => none
  | none => none

def eqFields (P : Program) (eq : TypeId → T → T → Option Bool) (xs ys : List T) : List Field → Option Bool
  | [] => some true
  | f :: r =>
    if f.name = "_" then none else
    match takeVarT P f.type (xs.drop f.offset), takeVarT P f.type (ys.drop f.offset) with
    | some x, some y => match eq f.type x y, eqFields P eq xs ys r with
      | some a, some b => some (a && b)
      | _, _ => none
    | _, _ => none

def eqElems (P : Program) (eq : T → T → Option Bool) (elem : TypeId) (size : Nat) (xs ys : List T) : List Nat → Option Bool
  | [] => some true
  | i :: r =>
    match takeVarT P elem (xs.drop (i * size)), takeVarT P elem (ys.drop (i * size)) with
    | some x, some y => match eq x y, eqElems P eq elem size xs ys r with
      | some a, some b => some (a && b)
      | _, _ => none
    | _, _ => none

/-- a == b: ints, bools, strings, and structs and arrays of these. -/
def eqIn (P : Program) : Nat → TypeId → T → T → Option Bool
  | 0, _, _, _ => none
  | d + 1, t, x, y =>
    match typ P t, x, y with
    | some .bool, .sc (.bool a), .sc (.bool b) => some (a == b)
    | some (.int _), .sc (.int k a), .sc (.int k' b) => if k = k' then some (a == b) else none
    | some .string, .sc (.string a), .sc (.string b) => some (a == b)
    | some (.struct fs), .agg xs, .agg ys => if P.stoodInHeld t then none else eqFields P (eqIn P d) xs ys fs.toList
    | some (.array len elem), .agg xs, .agg ys => match szOf P elem with
      | some size => eqElems P (eqIn P d elem) elem size xs ys (List.range len)
      | none => none
    | _, _, _ => none

def keyFields (P : Program) (ok : TypeId → T → Bool) (xs : List T) : List Field → Bool
  | [] => true
  | f :: r =>
    (if f.name = "_" then true else match takeVarT P f.type (xs.drop f.offset) with
      | some x => ok f.type x
      | none => false) && keyFields P ok xs r

/-- A key that can be asked for without a panic. -/
def keyOk (P : Program) : Nat → TypeId → T → Bool
  | 0, _, _ => false
  | d + 1, t, x =>
    match typ P t, x with
    | some (.int _), .sc _ => true
    | some .string, .sc _ => true
    | some .bool, .sc _ => true
    | some (.struct fs), .agg xs => keyFields P (keyOk P d) xs fs.toList
    | _, _ => false

/-- Where a key stands among a map's entries. -/
def findE (P : Program) (kt : TypeId) (k : Value) : List (Value × AV) → Nat → Option (Option Nat)
  | [], _ => some none
  | (k', _) :: r, i => if okVal k' then (match eqIn P 20 kt (ofVal k) (ofVal k') with
    | some true => if Instr.sameBits 10000 k' k then some (some i) else none
    | some false => findE P kt k r (i + 1)
    | none => none) else none

def aLookup (P : Program) (t : TypeId) (x ix : AV) (ok : Bool) (h : Heap) : Option AV :=
  match typ P t, x, ix.val? with
  | some (.map kt elem), .mp m, some k => match h[m]? with
    | some (.map es) =>
      if okVal k && keyOk P 20 kt (ofVal k) then
        match findE P kt k es 0 with
        | some (some i) => match es[i]? with
          | some (_, y) => some (if ok then mkTup [y, .t (.sc (.bool true))] else y)
          | none => none
        | some none => match zeroOf P elem with
          | some z => some (if ok then mkTup [.t z, .t (.sc (.bool false))] else .t z)
          | none => none
        | none => none
      else none
    | _ => none
  | _, _, _ => none

def aMapSet (P : Program) (t : TypeId) (x ix y : AV) (h : Heap) : Option Heap :=
  match typ P t, x, ix.val? with
  | some (.map kt _), .mp m, some k => match h[m]? with
    | some (.map es) =>
      if okVal k && keyOk P 20 kt (ofVal k) then
        match findE P kt k es 0 with
        | some (some i) => some (h.set m (.map (es.set i (k, y))))
        | some none => some (h.set m (.map (es ++ [(k, y)])))
        | none => none
      else none
    | _ => none
  | _, _, _ => none

def isSliceT (P : Program) (t : TypeId) : Bool := match typ P t with | some (.slice _) => true | _ => false

def aEq (P : Program) (t : TypeId) (x y : AV) : Option Bool :=
  match x, y with
  | .t (.agg xs), .t (.agg ys) => if P.eqGuardType P.depth t then none else eqIn P 20 t (.agg xs) (.agg ys)
  | .t (.sc (.slice none 0 0)), .t (.sc (.slice none 0 0)) => if isSliceT P t then some true else none
  | .t (.sl _ _ (_ :: _)), .t (.sc (.slice none 0 0)) => if isSliceT P t then some false else none
  | .t (.sc (.slice none 0 0)), .t (.sl _ _ (_ :: _)) => if isSliceT P t then some false else none
  | .ms _ _ _ (_ + 1) _ _, .t (.sc (.slice none 0 0)) => if isSliceT P t then some false else none
  | .t (.sc (.slice none 0 0)), .ms _ _ _ (_ + 1) _ _ => if isSliceT P t then some false else none
  | .t (.sc (.slice a 0 _)), .t (.sc (.slice none 0 0)) => if isSliceT P t then some a.isNone else none
  | _, _ => none

def aBin (P : Program) (op : BinOp) (t : TypeId) (ox oy : Operand) (x y : AV) : Option AV :=
  match x, y with
  | .t (.sc (.slice _ _ _)), _ => match op with
    | .eql => match aEq P t x y with | some b => some (.t (.sc (.bool b))) | none => none
    | .neq => match aEq P t x y with | some b => some (.t (.sc (.bool !b))) | none => none
    | _ => none
  | .t (.sc a), .t (.sc b) => match pureRun P (do eqGuard op t ox oy a b; binOp op t a b) with
    | some v => if okVal v then some (.t (ofVal v)) else none
    | none => none
  | _, _ => match op with
    | .eql => match aEq P t x y with | some b => some (.t (.sc (.bool b))) | none => none
    | .neq => match aEq P t x y with | some b => some (.t (.sc (.bool !b))) | none => none
    | _ => none

def zipT (ρ : Operand → AV) : List (Nat × Operand) → List (Nat × AV)
  | [] => []
  | (i, x) :: r => (i, ρ x) :: zipT ρ r

def aBuiltin (P : Program) (b : Builtin) (argTypes : List TypeId) (type : TypeId) (args : List AV) (h : Heap) : Option Res :=
  match b, args with
  | .len, [x] =>
    match argTypes with
    | [t] => match typ P t with
      | some (.slice _) => match lenOf x with
        | some n => some (.val (.t (.sc (.int .i64 n))) h)
        | none => none
      | some .string => match x with
        | .t (.sc (.string s)) => some (.val (.t (.sc (.int .i64 s.size))) h)
        | _ => none
      | some (.array n _) => some (.val (.t (.sc (.int .i64 n))) h)
      | some (.pointer a) => match typ P a with
        | some (.array n _) => some (.val (.t (.sc (.int .i64 n))) h)
        | _ => none
      | some (.map _ _) => match x with
        | .mp o => match h[o]? with
          | some (.map es) => some (.val (.t (.sc (.int .i64 es.length))) h)
          | _ => none
        | _ => none
      | _ => none
    | _ => none
  | .append, [s, x] => match argTypes with
    | [t, u] => match typ P u with
      | some (.slice _) => match aAppend P t s x h with | some (v, h') => some (.val v h') | none => none
      | _ => none
    | _ => none
  | .copy, [d, s] => match argTypes with
    | t :: _ => match aCopy P t d s h with | some (v, h') => some (.val v h') | none => none
    | [] => none
  | .min, [.t (.sc (.int k a)), .t (.sc (.int _ b))] => some (.val (.t (.sc (.int k (if b < a then b else a)))) h)
  | .max, [.t (.sc (.int k a)), .t (.sc (.int _ b))] => some (.val (.t (.sc (.int k (if a < b then b else a)))) h)
  | _, _ => none

/-- The slices among a struct's fields: place and size of an element. -/
def growL (P : Program) : List Field → Option (List (Nat × Nat))
  | [] => some []
  | f :: r => match typ P f.type with
    | some (.slice e) => match szOf P e, growL P r with
      | some s, some l => some ((f.offset, s) :: l)
      | _, _ => none
    | _ => growL P r

/-- Cells in which nil slices will grow: the first in row n. -/
def growAV : Nat → List (Nat × Nat) → List AV → Option (List AV)
  | _, [], cs => some cs
  | n, (off, s) :: r, cs => match cs[off]? with
    | some (.t (.sc (.slice none 0 0))) => growAV (n + 1) r (cs.set off (.ms n 0 0 0 s false))
    | _ => none

def growRows (l : List (Nat × Nat)) : List AObj := l.map fun p => .row p.2 [] 0

def callOf (first : List AV) (f : Fn) (captured args : List AV) : Option Res :=
  match f with
  | .func g => some (.call (.fn g) (first ++ args ++ captured))
  | _ => none

def aCallee (x : AV) (args : List AV) : Option Res :=
  match x with
  | .t (.fn f first captured) => callOf (first.map .t) f (captured.map .t) args
  | .fn f first captured => callOf first f captured args
  | .yl o => some (.call (.yl o) args)
  | _ => none

def aOp (P : Program) (pol : Pol) (f : FuncId) (ρ : Operand → AV) (h : Heap) (o : Oper) : Option Res :=
  let d := o.dst.getD 0
  let v (x : Option AV) : Option Res := match x with | some v => some (.val v h) | none => none
  match o.op with
  | .move x => some (.val (ρ x) h)
  | .assign x =>
    if pol.grow f d then
      match ρ x, typ P o.type with
      | .t (.sc (.slice none 0 0)), some (.slice elem) => match szOf P elem with
        | some size => some (.val (.ms h.length 0 0 0 size false) (h ++ [.row size [] 0]))
        | none => none
      | y, _ => some (.val y h)
    else some (.val (ρ x) h)
  | .pick c a b => match ρ c with
    | .t (.sc (.bool c)) => match ρ a, ρ b with
      | .t (.sc (.bool x)), .t (.sc (.bool y)) => some (.val (.t (.sc (.bool (if c then x else y)))) h)
      | x, y => some (.val (if c then x else y) h)
    | _ => none
  | .alloc t => if pol.grow f d then (match zeroOf P t, typ P t with
      | some (.sc (.slice none 0 0)), some (.slice elem) => match szOf P elem with
        | some size => some (.val (.ref (h.length + 1) 1 0 0) (h ++ [.row size [] 0, .row 1 [.ms h.length 0 0 0 size false] 0]))
        | none => none
      | some (.agg zs), some (.struct fields) => match growL P fields.toList with
        | some l => match growAV h.length l (zs.map .t) with
          | some cs => if storableAll cs then some (.val (.ref (h.length + l.length) 1 0 0) (h ++ (growRows l ++ [.row cs.length [.agg cs] 0]))) else none
          | none => none
        | none => none
      | _, _ => none) else match zeroOf P t with
    | some z => if storableAll (AV.t z).cells then some (.val (.ref h.length 1 0 0) (h ++ [.row (AV.t z).cells.length [.t z] 0])) else none
    | none => none
  | .box t x => if pol.grow f d then (match ρ x, typ P t with
      | .t (.sc (.slice none 0 0)), some (.slice elem) => match szOf P elem with
        | some size => some (.val (.ref (h.length + 1) 1 0 0) (h ++ [.row size [] 0, .row 1 [.ms h.length 0 0 0 size false] 0]))
        | none => none
      | y, _ => if storableAll y.cells && !y.cells.isEmpty then some (.val (.ref h.length 1 0 0) (h ++ [.row y.cells.length [y] 0])) else none) else match pol.isMut f d, ρ x with
    | false, .t y => if storableAll (AV.t y).cells then some (.val (.t (.ip y.cells)) h) else none
    | _, y => if storableAll y.cells && !y.cells.isEmpty then some (.val (.ref h.length 1 0 0) (h ++ [.row y.cells.length [y] 0])) else none
  | .build t parts => v (aBuild P t (zipT ρ parts.toList))
  | .buildSlice t len parts => match typ P t with
    | some (.slice elem) => match szOf P elem, zeroOf P elem with
      | some size, some z =>
        if size = 0 ∨ 16777216 < len * size ∨ (AV.t z).cells.length ≠ size ∨ storableAll (AV.t z).cells = false then none else
        match fillElems size (List.replicate len (.t z)) (zipT ρ parts.toList) with
        | some elems => match pol.isMut f d, allT elems with
          | false, some ts => some (.val (.t (.sl true size ts)) h)
          | _, _ => some (.val (.ms h.length len 0 len size true) (h ++ [.row size elems 0]))
        | none => none
      | _, _ => none
    | _ => none
  | .load t a => v (aLoad P t (ρ a) h)
  | .store t a x => match aStore P t (ρ a) (ρ x) h with
    | some h' => some (.skip h')
    | none => none
  | .nilCheck x => match ρ x with
    | .t (.ip cs) => some (.val (.t (.ip cs)) h)
    | .t (.fn (.func g) a b) => some (.val (.t (.fn (.func g) a b)) h)
    | .ref o e i k => some (.val (.ref o e i k) h)
    | .fn (.func g) a b => some (.val (.fn (.func g) a b) h)
    | .yl o => some (.val (.yl o) h)
    | _ => none
  | .binOp op t x y _ => v (aBin P op t x y (ρ x) (ρ y))
  | .unOp op _ x => match ρ x with
    | .t (.sc a) => match pureRun P (Op.unary op a) with
      | some r => if okVal r then some (.val (.t (ofVal r)) h) else none
      | none => none
    | _ => none
  | .convert s t x => match ρ x with
    | .t (.sc a) => match pureRun P (convert s t a) with
      | some r => if okVal r then some (.val (.t (ofVal r)) h) else none
      | none => none
    | .t (.sl _ _ (y :: ys)) => v (textOf P s t (y :: ys))
    | _ => none
  | .makeFunc fn first captured =>
    match allT (first.toList.map ρ), allT (captured.toList.map ρ) with
    | some a, some b => some (.val (.t (.fn fn a b)) h)
    | _, _ => some (.val (.fn fn (first.toList.map ρ) (captured.toList.map ρ)) h)
  | .makeMap _ none => some (.val (.mp h.length) (h ++ [.map []]))
  | .makeSlice t l c => match typ P t with
    | some (.slice elem) => match szOf P elem, byOf P elem, zeroOf P elem, asNat (ρ l), asNat (ρ c) with
      | some size, some bytes, some z, some n, some m =>
        if size ≠ 0 ∧ (AV.t z).cells.length = size ∧ storableAll (AV.t z).cells = true ∧ n ≤ m ∧ bytes * m ≤ roomB ∧ m ≤ 9223372036854775807 then
          some (.val (.ms h.length n 0 n size (decide (n = m))) (h ++ [.row size (List.replicate n (.t z)) 0])) else none
      | _, _, _, _, _ => none
    | _ => none
  | .slice t x lo hi mx => v (aSlice P t (ρ x) (lo.map ρ) (hi.map ρ) (mx.map ρ))
  | .fieldAddr s x fi => v (aFieldAddr P s (ρ x) fi)
  | .field s x fi => match aField P s fi, (ρ x).isAgg with
    | some (t, off), true => v (takeVar P t ((ρ x).cells.drop off))
    | _, _ => none
  | .indexAddr t x ix => v (aIndexAddr P t (ρ x) (ρ ix))
  | .index t x ix => v (aIndex P t (ρ x) (ρ ix))
  | .lookup t x ix ok => v (aLookup P t (ρ x) (ρ ix) ok h)
  | .mapUpdate t m k x => match aMapSet P t (ρ m) (ρ k) (ρ x) h with
    | some h' => some (.skip h')
    | none => none
  | .insert t m k x => match aMapSet P t (ρ m) (ρ k) (ρ x) h with
    | some h' => some (.skip h')
    | none => none
  | .extract x i => match ρ x with
    | .t (.tup vs) => match vs[i]? with | some y => some (.val (.t y) h) | none => none
    | .tup vs => v vs[i]?
    | _ => none
  | .call c => match c.callee with
    | .builtin b => aBuiltin P b c.argTypes.toList o.type (c.args.toList.map ρ) h
    | .value g => aCallee (ρ g) (c.args.toList.map ρ)
    | .invoke _ _ => none
  | _ => none

def evalOperand (pol : Pol) (env : Env) : Operand → AV
  | .tmp t => env.getD t .dead
  | .const v => if okVal v then .t (ofVal v) else .dead
  | .global g => match pol.glob g with | some x => .t x | none => .dead
  | .func f => .t (.fn (.func f) [] [])

/-! ### Snapshots -/

mutual
/-- Does the value name no object of p? -/
def avoid (p : Nat → Bool) : AV → Bool
  | .t _ => true
  | .ref o _ _ _ => !p o
  | .ms o _ _ _ _ _ => !p o
  | .mp o => !p o
  | .yl o => !p o
  | .dead => true
  | .agg cs => avoidAll p cs
  | .tup cs => avoidAll p cs
  | .fn _ a b => avoidAll p a && avoidAll p b
def avoidAll (p : Nat → Bool) : List AV → Bool
  | [] => true
  | v :: r => avoid p v && avoidAll p r
end

/-- A value as a tree: every object that it names is one of p, and read as it stands now. -/
def snap (h : Heap) (p : Nat → Bool) : Nat → AV → Option T
  | 0, .t x => some x
  | 0, _ => none
  | _ + 1, .t x => some x
  | d + 1, .agg cs => match mapO (snap h p d) cs with | some ts => some (.agg ts) | none => none
  | d + 1, .tup cs => match mapO (snap h p d) cs with | some ts => some (.tup ts) | none => none
  | d + 1, .fn f a b => match mapO (snap h p d) a, mapO (snap h p d) b with | some x, some y => some (.fn f x y) | _, _ => none
  | d + 1, .ref o e i off => if p o then (match rowAt h o e i with
    | some v => match mapO (snap h p d) v.cells with | some ts => some (.ip (ts.drop off)) | none => none
    | none => none) else none
  | d + 1, .ms o e i len k clip => if p o then (match elemsOf h k (.ms o e i len k clip) with
    | some es => match mapO (snap h p d) es with | some ts => some (.sl clip k ts) | none => none
    | none => none) else none
  | _ + 1, _ => none

def allObj : Nat → Bool := fun _ => true

def frzCell (h : Heap) (p : Nat → Bool) (v : AV) : Option AV :=
  if avoid p v then some v else match snap h p 20 v with | some x => some (.t x) | none => none

/-- A value with what it names of p turned into trees. -/
def frz (h : Heap) (p : Nat → Bool) (v : AV) : Option AV :=
  match v with
  | .agg cs => if avoidAll p cs then some v else match mapO (frzCell h p) cs with
    | some cs => some (mkAgg cs)
    | none => none
  | v => frzCell h p v

def T.plain : T → Bool
  | .sc _ => true
  | .agg cs => cs.all fun | .sc _ => true | _ => false
  | .tup vs => vs.all fun | .sc _ => true | .agg cs => (cs.all fun | .sc _ => true | _ => false) | _ => false
  | _ => false

abbrev Oracle := FuncId → List T → Option T
abbrev Inl := Tgt → List AV → Heap → Option (AV × Heap)

/-- Copies of slices without elements, answered without a look at the code (whether such a slice is nil, a tree does not tell). -/
def primT (pol : Pol) : Oracle := fun f ts => if pol.prim f then (match ts with | [.sl _ k []] => some (.sl false k []) | _ => none) else pol.orc f ts

def primB (pol : Pol) (f : FuncId) (args : List AV) : Bool := pol.prim f && (match args with | [.t (.sl _ _ [])] => true | _ => false)

/-- A call: in the caller's heap, or pure through the oracle. -/
def aCall (pol : Pol) (K : Oracle) (I : Inl) (at_ : FuncId) (d : Tmp) (g : Tgt) (args : List AV) (h : Heap) : Option (AV × Heap) :=
  match g with
  | .yl o => I (.yl o) args h
  | .fn f =>
    if (pol.inl f at_ d && !primB pol f args) = true then I (.fn f) args h else
    match allT args with
    | some ts => match K f ts with | some r => some (.t r, h) | none => none
    | none => match mapO (snap h allObj 20) args with
      | some ts => match K f ts with | some r => if r.plain then some (.t r, h) else none | none => none
      | none => I (.fn f) args h

def put (env : Env) : Option Tmp → AV → Env
  | some d, v => env.set d v
  | none, _ => env

def frzEnv (h : Heap) (p : Nat → Bool) (env : Env) : Env := env.map fun v => match frz h p v with | some v => v | none => .dead

def frzEntry (h : Heap) (p : Nat → Bool) (kv : Value × AV) : Option (Value × AV) :=
  match frz h p kv.2 with | some v => some (kv.1, v) | none => none

def frzObj (h : Heap) (p : Nat → Bool) (x : AObj) : Option AObj :=
  match x with
  | .row k es mr => if avoidAll p es then some x else match mapO (frz h p) es with | some es => some (.row k es mr) | none => none
  | .map es => if es.all (fun kv => avoid p kv.2) then some x else match mapO (frzEntry h p) es with | some es => some (.map es) | none => none
  | .loop _ env _ _ _ _ _ => if avoidAll p env then some x else none
  | .gone => some .gone

def fromB (n : Nat) : Nat → Bool := fun o => decide (n ≤ o)

/-- Behind a round: what it allocated is dropped; what still names it reads it as a tree. -/
def shrink (n : Nat) (env : Env) (h : Heap) : Option (Env × Heap) :=
  if h.length ≤ n then some (env, h)
  else match mapO (frzObj h (fromB n)) (h.take n) with
    | some h' => some (frzEnv h (fromB n) env, h')
    | none => none

mutual
/-- The objects that a value names. -/
def names : AV → List Nat
  | .t _ => []
  | .ref o _ _ _ => [o]
  | .ms o _ _ _ _ _ => [o]
  | .mp o => [o]
  | .yl o => [o]
  | .dead => []
  | .agg cs => namesAll cs
  | .tup cs => namesAll cs
  | .fn _ a b => namesAll a ++ namesAll b
def namesAll : List AV → List Nat
  | [] => []
  | v :: r => names v ++ namesAll r
end

def namesObj : Option AObj → List Nat
  | some (.row _ es _) => namesAll es
  | some (.map es) => es.flatMap fun kv => names kv.2
  | _ => []

/-- The objects that can be reached from a list of objects, d links deep. -/
def reach (h : Heap) : Nat → List Nat → List Nat
  | 0, os => os
  | d + 1, os => os ++ (match os.flatMap (fun o => namesObj h[o]?) with
    | [] => []
    | ms => reach h d ms)

def goneOf (h : Heap) (p : Nat → Bool) : Nat → Heap → Option Heap
  | _, [] => some []
  | i, x :: r => match (if p i then some .gone else frzObj h p x), goneOf h p (i + 1) r with
    | some y, some ys => some (y :: ys)
    | _, _ => none

/-- The objects of os become trees, wherever they are named. -/
def freeze (os : List Nat) (env : Env) (h : Heap) : Option (Env × Heap) :=
  match goneOf h (fun o => os.contains o) 0 h with
  | some h' => some (frzEnv h (fun o => os.contains o) env, h')
  | none => none

def guardOk (ops : List Oper) (env : Env) : Option (Nat × Bool) → Option Bool
  | none => some true
  | some (j, want) =>
    match ops[j]? with
    | some o => match o.dst with
      | some d => match env.getD d .dead with
        | .t (.sc (.bool b)) => some (b == want)
        | .t (.sc _) => some false
        | _ => none
      | none => none
    | none => none

/-- One operation, its guard true. -/
def aStep1 (P : Program) (pol : Pol) (K : Oracle) (I : Inl) (f : FuncId) (o : Oper) (env : Env) (h : Heap) : Option (Env × Heap) :=
  match aOp P pol f (evalOperand pol env) h o with
  | some (.val v h') => some (put env o.dst v, h')
  | some (.skip h') => some (put env o.dst (.t (.sc undef)), h')
  | some (.call g args) => match aCall pol K I f (o.dst.getD 0) g args h with
    | some (v, h') => some (put env o.dst v, h')
    | none => none
  | none => none

/-- What the operands of an operation name is turned into trees first, where the policy says so. -/
def aStep (P : Program) (pol : Pol) (K : Oracle) (I : Inl) (f : FuncId) (o : Oper) (env : Env) (h : Heap) : Option (Env × Heap) :=
  if pol.frz f (o.dst.getD 0) then
    match freeze (reach h 20 (namesAll (o.op.operands.toList.map (evalOperand pol env)))) env h with
    | some (env', h') => aStep1 P pol K I f o env' h'
    | none => none
  else aStep1 P pol K I f o env h

def aOps (P : Program) (pol : Pol) (K : Oracle) (I : Inl) (f : FuncId) (ops : List Oper) : List Oper → Env → Heap → Option (Env × Heap)
  | [], env, h => some (env, h)
  | o :: rest, env, h =>
    match guardOk ops env o.guard with
    | some b => if b then (match aStep P pol K I f o env h with
        | some (env', h') => aOps P pol K I f ops rest env' h'
        | none => none)
      else aOps P pol K I f ops rest (put env o.dst (.t (.sc undef))) h
    | none => none

inductive Xit where
  | normal
  | exit (id : Nat)
  | ret

def keepOnly (ts : List Tmp) (env : Env) : Env := env.mapIdx fun i v => if ts.contains i then v else .dead

def tidy (live : Option (List Tmp)) (env : Env) : Env :=
  match live with
  | some ts => keepOnly ts env
  | none => env

def iter (n0 : Nat) (live : Option (List Tmp)) (body : Env → Heap → Option (Xit × Env × Heap)) : Nat → Env → Heap → Option (Xit × Env × Heap)
  | 0, _, _ => none
  | n + 1, env, h =>
    match body (tidy live env) h with
    | some (.normal, env', h') => match shrink n0 env' h' with
      | some (env'', h'') => iter n0 live body n env'' h''
      | none => none
    | r => r

def loopOf (h : Heap) (l : Nat) : Option (Option Code) :=
  match h[l]? with
  | some (.loop _ _ _ _ _ false p) => some p
  | _ => none

def objsOf : AV → List Nat
  | .ref o _ _ _ => [o]
  | .ms o _ _ _ _ _ => [o]
  | .mp o => [o]
  | _ => []

/-- The objects that an operation reads or writes; none: any. -/
def touch0 (pol : Pol) (at_ : FuncId) (ρ : Operand → AV) (o : Oper) : Option (List Nat) :=
  match o.op with
  | .load _ a => some (objsOf (ρ a))
  | .store _ a _ => some (objsOf (ρ a))
  | .lookup _ m _ _ => some (objsOf (ρ m))
  | .mapUpdate _ m _ _ => some (objsOf (ρ m))
  | .insert _ m _ _ => some (objsOf (ρ m))
  | .call c => match c.callee with
    | .builtin .append => some (c.args.toList.flatMap fun a => objsOf (ρ a))
    | .builtin .copy => some (c.args.toList.flatMap fun a => objsOf (ρ a))
    | .builtin .len => some (c.args.toList.flatMap fun a => objsOf (ρ a))
    | .builtin _ => some []
    | .value g => match aCallee (ρ g) (c.args.toList.map ρ) with
      | some (.call (.fn f) args) => if pol.inl f at_ (o.dst.getD 0) then none else (match allT args with | some _ => some [] | none => none)
      | _ => none
    | .invoke _ _ => none
  | _ => some []

/-- What an operation touches, and the objects that it makes. -/
def touchN (t : Option (List Nat)) (h h' : Heap) : Option (List Nat) :=
  match t with
  | some l => some (l ++ List.range' h.length (h'.length - h.length))
  | none => none

def apartB : Option (List Nat) → Option (List Nat) → Bool
  | some [], _ => true
  | _, some [] => true
  | some a, some b => a.all fun x => !b.contains x
  | _, _ => false

def critOk (crit : List (Nat × Nat)) (ts : List (Option (List Nat))) : Bool :=
  crit.all fun (i, j) => apartB (ts.getD i none) (ts.getD j none)

/-- The operations of a region that draws its order: in the order of the text, with what each touches. -/
def aOpsD (P : Program) (pol : Pol) (K : Oracle) (I : Inl) (f : FuncId) (ops : List Oper) : List Oper → Env → Heap → Option (Env × Heap × List (Option (List Nat)))
  | [], env, h => some (env, h, [])
  | o :: rest, env, h =>
    match guardOk ops env o.guard with
    | some b => if b then (match aStep1 P pol K I f o env h with
        | some (env', h') => if h'.length < h.length then none else match aOpsD P pol K I f ops rest env' h' with
          | some (env'', h'', ts) => some (env'', h'', touchN (touch0 pol f (evalOperand pol env) o) h h' :: ts)
          | none => none
        | none => none)
      else match aOpsD P pol K I f ops rest (put env o.dst (.t (.sc undef))) h with
          | some (env'', h'', ts) => some (env'', h'', some [] :: ts)
          | none => none
    | none => none

def aCode (P : Program) (pol : Pol) (K : Oracle) (I : Inl) (n : Nat) (f : FuncId) : (bid : Nat) → Code → Env → Heap → Option (Xit × Env × Heap)
  | _, .skip, env, h => some (.normal, env, h)
  | _, .label _, env, h => some (.normal, env, h)
  | _, .region _ ops false, env, h =>
    match aOps P pol K I f ops.toList ops.toList env h with
    | some (env', h') => some (.normal, env', h')
    | none => none
  | _, .region id ops true, env, h =>
    match aOpsD P pol K I f ops.toList ops.toList env h with
    | some (env', h', ts) => if critOk (pol.crit f id) ts then some (.normal, env', h') else none
    | none => none
  | bid, .seq a b, env, h =>
    match aCode P pol K I n f bid a env h with
    | some (.normal, env', h') => aCode P pol K I n f bid b env' h'
    | r => r
  | bid, .cond c a b, env, h =>
    match evalOperand pol env c with
    | .t (.sc (.bool t)) => if t then aCode P pol K I n f bid a env h else aCode P pol K I n f bid b env h
    | _ => none
  | _, .block id c, env, h =>
    match aCode P pol K I n f id c env h with
    | some (.exit j, env', h') => if j = id then some (.normal, env', h') else some (.exit j, env', h')
    | r => r
  | bid, .loop c, env, h => iter h.length (pol.live f bid) (aCode P pol K I n f bid c) n env h
  | bid, .scope c, env, h => aCode P pol K I n f bid c env h
  | _, .exit id, env, h => some (.exit id, env, h)
  | _, .ret, env, h => some (.ret, env, h)
  | bid, .rangeFunc g params assign body, env, h =>
    match aCallee (evalOperand pol env g) [.yl h.length] with
    | some (.call (.fn gf) args) => match I (.fn gf) args (h ++ [.loop f (tidy (pol.live f bid) env) params.toList assign body false none]) with
      | some (_, h2) => match loopOf h2 h.length, shrink h.length env (h2.set h.length .gone) with
        | some none, some (env', h') => some (.normal, env', h')
        | some (some .ret), some (env', h') => some (.ret, env', h')
        | some (some (.exit id)), some (env', h') => some (.exit id, env', h')
        | _, _ => none
      | none => none
    | _ => none
  | _, _, _, _ => none

def aResult (P : Program) (env : Env) (h : Heap) : ResultVar → Option AV
  | .tmp t => some (env.getD t .dead)
  | .cell a t => aLoad P t (env.getD a .dead) h

def aResults (P : Program) (env : Env) (h : Heap) : List ResultVar → Option (List AV)
  | [] => some []
  | r :: rs => match aResult P env h r, aResults P env h rs with
    | some v, some vs => some (v :: vs)
    | _, _ => none

def one (vs : List AV) : AV :=
  match vs with
  | [v] => v
  | vs => mkTup vs

/-- A function's body in a heap. -/
def aBody (P : Program) (pol : Pol) (K : Oracle) (I : Inl) (n : Nat) (f : FuncId) (args : List AV) (h : Heap) : Option (AV × Heap) :=
  match P.funcs[f]? with
  | some fn => match fn.body with
    | some c => match aCode P pol K I n f 0 c (args ++ List.replicate (fn.ntmps - args.length) .dead) h with
      | some (.normal, env, h') => match aResults P env h' fn.results.toList with
        | some vs => some (one vs, h')
        | none => none
      | some (.ret, env, h') => match aResults P env h' fn.results.toList with
        | some vs => some (one vs, h')
        | none => none
      | _ => none
    | none => none
  | none => none

def setAll (env : Env) : List (Tmp × AV) → Env
  | [] => env
  | (t, v) :: r => setAll (env.set t v) r

/-- A round begins. -/
def busyOf (h : Heap) (l : Nat) : Option Heap :=
  match h[l]? with
  | some (.loop f env params assign body false none) => some (h.set l (.loop f env params assign body true none))
  | _ => none

/-- A round ends, with the jump that it leaves. -/
def idleOf (h : Heap) (l : Nat) (jump : Option Code) : Option (AV × Heap) :=
  match h[l]? with
  | some (.loop f env params assign body true none) => some (.t (.sc (.bool jump.isNone)), h.set l (.loop f env params assign body false jump))
  | _ => none

/-- The calls that run in the caller's heap: d bounds how deep they nest. -/
def inl (P : Program) (pol : Pol) (K : Oracle) (n : Nat) : Nat → Inl
  | 0 => fun _ _ _ => none
  | d + 1 => fun g args h =>
    match g with
    | .fn f => aBody P pol K (inl P pol K n d) n f args h
    | .yl l => match h[l]? with
      | some (.loop f env params assign body false none) =>
        if args.length ≠ params.length then none else
        match aCode P pol K (inl P pol K n d) n f 0 assign (setAll env (params.zip args)) h with
        | some (.normal, env1, h1) => match busyOf h1 l with
          | some h1 => match aCode P pol K (inl P pol K n d) n f 0 body env1 h1 with
            | some (.normal, _, h2) => idleOf h2 l none
            | some (.ret, _, h2) => idleOf h2 l (some .ret)
            | some (.exit id, _, h2) => idleOf h2 l (some (.exit id))
            | none => none
          | none => none
        | _ => none
      | _ => none

/-- A function called with trees, in an empty heap; its result is a tree. -/
def runTop (P : Program) (pol : Pol) (K : Oracle) (n d : Nat) (f : FuncId) (args : List T) : Option T :=
  match aBody P pol K (inl P pol K n d) n f (args.map .t) [] with
  | some (r, h) => snap h allObj 20 r
  | none => none

/-- The evaluator over itself, for closed calls. -/
def runN (P : Program) (pol : Pol) (loops : Nat) : Nat → Oracle
  | 0 => fun _ _ => none
  | m + 1 => fun f args => match primT pol f args with | some r => some r | none => runTop P pol (runN P pol loops m) loops m f args

end Go.Abs

/- How the abstract values stand for the model's values in a world, and what a step of the machine leaves of that. -/
namespace Go.Abs
open Go

/-- What is known of the code of a function's parts. -/
class Cp where
  ok : FuncId → Code → Prop

abbrev Dom := Nat → Prop
abbrev Bet := Nat → Nat → Option (Nat × Nat)

inductive RepT (D : Dom) (w : World) : Value → T → Prop
  | sc (v : Value) (hv : noAgg v = true) : RepT D w v (.sc v)
  | agg (cs : Array Value) (ts : List T) (hl : cs.size = ts.length) (h : ∀ (i : Nat) v t, cs[i]? = some v → ts[i]? = some t → RepT D w v t) : RepT D w (.agg cs) (.agg ts)
  | tup (cs : Array Value) (ts : List T) (hl : cs.size = ts.length) (h : ∀ (i : Nat) v t, cs[i]? = some v → ts[i]? = some t → RepT D w v t) : RepT D w (.tuple cs) (.tup ts)
  | fn (f : Fn) (a b : Array Value) (x y : List T) (ha : a.size = x.length) (hb : b.size = y.length)
      (h1 : ∀ (i : Nat) v t, a[i]? = some v → x[i]? = some t → RepT D w v t) (h2 : ∀ (i : Nat) v t, b[i]? = some v → y[i]? = some t → RepT D w v t) : RepT D w (.func f a b) (.fn f x y)
  | ip (b off : Nat) (cs : List T) (hD : D b) (c : Nat → Value) (hc : ∀ j, j < cs.length → w.cell? ⟨b, off + j, none⟩ = some (c j) ∧ okCell (c j) = true)
      (h : ∀ (j : Nat) t, cs[j]? = some t → RepT D w (c j) t) : RepT D w (.pointer (some ⟨b, off, none⟩)) (.ip cs)
  | nosl (a : Option Addr) (cap : Nat) (clip : Bool) (k : Nat) (hc : clip = true → cap = 0) : RepT D w (.slice a 0 cap) (.sl clip k [])
  | sl (b off len cap : Nat) (clip : Bool) (k : Nat) (xs : List T) (hD : D b) (hlen : len = xs.length) (hcap : len ≤ cap) (hclip : clip = true → cap = len)
      (hk : ∀ (i : Nat) x, xs[i]? = some x → x.cells.length = k) (c : Nat → Value) (hc : ∀ j, j < len * k → w.cell? ⟨b, off + j, none⟩ = some (c j) ∧ okCell (c j) = true)
      (h : ∀ (i : Nat) x (j : Nat) t, xs[i]? = some x → x.cells[j]? = some t → RepT D w (c (i * k + j)) t) : RepT D w (.slice (some ⟨b, off, none⟩) len cap) (.sl clip k xs)

def rowSize (w : World) (b : Nat) : Option Nat :=
  match w.heap[b]? with
  | some (.cells c _ _) => some c.size
  | _ => none

inductive Rep (D : Dom) (β : Bet) (w : World) : Value → AV → Prop
  | t (v : Value) (x : T) (h : RepT D w v x) : Rep D β w v (.t x)
  | agg (cs : Array Value) (ts : List AV) (hl : cs.size = ts.length) (h : ∀ (i : Nat) v t, cs[i]? = some v → ts[i]? = some t → Rep D β w v t) : Rep D β w (.agg cs) (.agg ts)
  | tup (cs : Array Value) (ts : List AV) (hl : cs.size = ts.length) (h : ∀ (i : Nat) v t, cs[i]? = some v → ts[i]? = some t → Rep D β w v t) : Rep D β w (.tuple cs) (.tup ts)
  | fn (f : Fn) (a b : Array Value) (x y : List AV) (ha : a.size = x.length) (hb : b.size = y.length)
      (h1 : ∀ (i : Nat) v t, a[i]? = some v → x[i]? = some t → Rep D β w v t) (h2 : ∀ (i : Nat) v t, b[i]? = some v → y[i]? = some t → Rep D β w v t) : Rep D β w (.func f a b) (.fn f x y)
  | ref (o e i off b k : Nat) (hb : β o e = some (b, k)) : Rep D β w (.pointer (some ⟨b, i * k + off, none⟩)) (.ref o e i off)
  | ms0 (a : Option Addr) (o e i k : Nat) (clip : Bool) : Rep D β w (.slice a 0 0) (.ms o e i 0 k clip)
  | ms (o e i len k : Nat) (clip : Bool) (b cap n : Nat) (hb : β o e = some (b, k)) (hle : i + len ≤ e) (hcap : len ≤ cap) (hclip : clip = true → cap = len)
      (hn : rowSize w b = some n) (hsz : (i + cap) * k ≤ n) : Rep D β w (.slice (some ⟨b, i * k, none⟩) len cap) (.ms o e i len k clip)
  | mp (o b k : Nat) (hb : β o 0 = some (b, k)) : Rep D β w (.map (some b)) (.mp o)
  | yl (o b k : Nat) (hb : β o 0 = some (b, k)) : Rep D β w (.func (.yield b) #[] #[]) (.yl o)
  | dead (v : Value) : Rep D β w v .dead

structure Ext (D : Dom) (β : Bet) (w : World) (D' : Dom) (β' : Bet) (w' : World) : Prop where
  sub : ∀ b, D b → D' b
  same : ∀ b, D b → w'.heap[b]? = w.heap[b]?
  bet : ∀ o e x, β o e = some x → β' o e = some x
  rows : ∀ b n, rowSize w b = some n → rowSize w' b = some n
  defs : ∀ (b : Nat) ds, w.heap[b]? = some (.deferred ds) → w'.heap[b]? = some (.deferred ds)
  loops : ∀ (b : Nat) L, w.heap[b]? = some (.loop L) → ∃ L', w'.heap[b]? = some (.loop L')
  size : w.heap.size ≤ w'.heap.size

theorem Ext.refl (D : Dom) (β : Bet) (w : World) : Ext D β w D β w :=
  ⟨fun _ h => h, fun _ _ => rfl, fun _ _ _ h => h, fun _ _ h => h, fun _ _ h => h, fun _ L h => ⟨L, h⟩, Nat.le_refl _⟩

theorem Ext.trans {D D' D'' : Dom} {β β' β'' : Bet} {w w' w'' : World} (h : Ext D β w D' β' w') (h' : Ext D' β' w' D'' β'' w'') : Ext D β w D'' β'' w'' :=
  ⟨fun b x => h'.sub b (h.sub b x), fun b x => (h'.same b (h.sub b x)).trans (h.same b x), fun o e x y => h'.bet o e x (h.bet o e x y), fun b n x => h'.rows b n (h.rows b n x),
   fun b ds x => h'.defs b ds (h.defs b ds x), fun b L x => let ⟨L1, y⟩ := h.loops b L x; h'.loops b L1 y, Nat.le_trans h.size h'.size⟩

theorem cell?_congr {w w' : World} {a : Addr} (h : w'.heap[a.block]? = w.heap[a.block]?) : w'.cell? a = w.cell? a := by
  simp only [World.cell?, h]

theorem RepT.mono {D D' : Dom} {w w' : World} (hs : ∀ b, D b → D' b) (hw : ∀ b, D b → w'.heap[b]? = w.heap[b]?) {v : Value} {x : T} (h : RepT D w v x) : RepT D' w' v x := by
  induction h with
  | sc v hv => exact .sc v hv
  | agg cs ts hl _ ih => exact .agg cs ts hl ih
  | tup cs ts hl _ ih => exact .tup cs ts hl ih
  | fn f a b x y ha hb _ _ ih1 ih2 => exact .fn f a b x y ha hb ih1 ih2
  | ip b off cs hD c hc _ ih => exact .ip b off cs (hs b hD) c (fun j hj => ⟨(cell?_congr (hw b hD)).trans (hc j hj).1, (hc j hj).2⟩) ih
  | nosl a cap clip k hc => exact .nosl a cap clip k hc
  | sl b off len cap clip k xs hD hlen hcap hclip hk c hc _ ih =>
    exact .sl b off len cap clip k xs (hs b hD) hlen hcap hclip hk c (fun j hj => ⟨(cell?_congr (hw b hD)).trans (hc j hj).1, (hc j hj).2⟩) ih

theorem Rep.mono {D D' : Dom} {β β' : Bet} {w w' : World} (hx : Ext D β w D' β' w') {v : Value} {x : AV} (h : Rep D β w v x) : Rep D' β' w' v x := by
  induction h with
  | t v x h => exact .t v x (h.mono hx.sub hx.same)
  | agg cs ts hl _ ih => exact .agg cs ts hl ih
  | tup cs ts hl _ ih => exact .tup cs ts hl ih
  | fn f a b x y ha hb _ _ ih1 ih2 => exact .fn f a b x y ha hb ih1 ih2
  | ref o e i off b k hb => exact .ref o e i off b k (hx.bet _ _ _ hb)
  | ms0 a o e i k clip => exact .ms0 a o e i k clip
  | ms o e i len k clip b cap n hb hle hcap hclip hn hsz => exact .ms o e i len k clip b cap n (hx.bet _ _ _ hb) hle hcap hclip (hx.rows _ _ hn) hsz
  | mp o b k hb => exact .mp o b k (hx.bet _ _ _ hb)
  | yl o b k hb => exact .yl o b k (hx.bet _ _ _ hb)
  | dead v => exact .dead v

/-- A list of values, one by one. -/
def RepL (D : Dom) (β : Bet) (w : World) (vs : List Value) (xs : List AV) : Prop :=
  vs.length = xs.length ∧ ∀ (i : Nat) v x, vs[i]? = some v → xs[i]? = some x → Rep D β w v x

def EnvRep (D : Dom) (β : Bet) (w : World) (tmps : Array Value) (env : Env) : Prop :=
  tmps.size = env.length ∧ ∀ (i : Nat) v x, tmps[i]? = some v → env[i]? = some x → Rep D β w v x

theorem EnvRep.mono {D D' : Dom} {β β' : Bet} {w w' : World} (hx : Ext D β w D' β' w') {tmps : Array Value} {env : Env} (h : EnvRep D β w tmps env) : EnvRep D' β' w' tmps env :=
  ⟨h.1, fun i v x hv he => (h.2 i v x hv he).mono hx⟩

def RowOk (D : Dom) (β : Bet) (w : World) (o k : Nat) (elems : List AV) (mr : Nat) : Prop :=
  (∀ (i : Nat) x, elems[i]? = some x → x.cells.length = k) ∧
  ∀ e b k', β o e = some (b, k') → ¬ D b ∧ k' = k ∧ e ≤ elems.length ∧
    (mr ≤ e → ∃ c ty, w.heap[b]? = some (.cells c ty (0, 0)) ∧ e * k ≤ c.size ∧
      ∀ (i : Nat) x (j : Nat) t, i < e → elems[i]? = some x → x.cells[j]? = some t → ∃ v, c[i * k + j]? = some v ∧ okCell v = true ∧ Rep D β w v t)

def ObjOk [Cp] (D : Dom) (β : Bet) (w : World) (o : Nat) : AObj → Prop
  | .gone => True
  | .row k elems mr => RowOk D β w o k elems mr
  | .map es => ∀ e b k, β o e = some (b, k) → e = 0 ∧ ¬ D b ∧ ∃ mes clock, w.heap[b]? = some (.map mes clock) ∧ mes.size = es.length ∧
      ∀ (i : Nat) m kv, mes[i]? = some m → es[i]? = some kv → m.key = kv.1 ∧ Rep D β w m.val kv.2
  | .loop f env params assign body busy pending => ∀ e b k, β o e = some (b, k) → e = 0 ∧ ¬ D b ∧ ∃ L : Loop, w.heap[b]? = some (.loop L) ∧ (Cp.ok f assign ∧ Cp.ok f body) ∧ L.params.toList = params ∧
      L.assign = assign ∧ L.body = body ∧ L.pending = pending ∧ L.state = (if busy then .busy else if pending.isNone then .ready else .done) ∧ EnvRep D β w L.tmps env

/-- Where an activation began: what lay then, and which of it is read as trees. -/
structure Base where
  N : Nat
  W : World
  D : Dom

structure GInv (Z : Base) (D : Dom) (β : Bet) (w : World) : Prop where
  size0 : Z.N ≤ w.heap.size
  old : ∀ b, b < Z.N → w.heap[b]? = Z.W.heap[b]?
  os : w.os = Z.W.os
  out : w.output = Z.W.output
  dlt : ∀ b, D b → b < w.heap.size
  dn : ∀ b, D b → b < Z.N → Z.D b
  blt : ∀ o e b k, β o e = some (b, k) → Z.N ≤ b ∧ b < w.heap.size
  inj : ∀ o e b k o' e' k', β o e = some (b, k) → β o' e' = some (b, k') → o = o'
  nd : ∀ (b : Nat) ds, w.heap[b]? = some (.deferred ds) → Z.N ≤ b → ¬ D b ∧ ∀ o e k, β o e ≠ some (b, k)

structure Inv [Cp] (Z : Base) (D : Dom) (β : Bet) (h : Heap) (w : World) : Prop where
  g : GInv Z D β w
  obj : ∀ (o : Nat) x, h[o]? = some x → ObjOk D β w o x
  dom : ∀ o e y, β o e = some y → o < h.length

/-- What a step leaves alone: the objects outside S. -/
structure Frm (S : Nat → Prop) (D : Dom) (β : Bet) (w : World) (D' : Dom) (β' : Bet) (w' : World) : Prop where
  ext : Ext D β w D' β' w'
  fr : ∀ o e b k, ¬ S o → β o e = some (b, k) → w'.heap[b]? = w.heap[b]? ∧ (D' b → D b)
  bt : ∀ o e, ¬ S o → β' o e = β o e

theorem ObjOk.frame [Cp] {S : Nat → Prop} {D D' : Dom} {β β' : Bet} {w w' : World} (hf : Frm S D β w D' β' w') {o : Nat} (ho : ¬ S o) {x : AObj} (h : ObjOk D β w o x) : ObjOk D' β' w' o x := by
  cases x with
  | gone => trivial
  | row k elems mr =>
    refine ⟨h.1, fun e b k' hb => ?_⟩
    rw [hf.bt o e ho] at hb
    obtain ⟨hD, hk, he, hc⟩ := h.2 e b k' hb
    obtain ⟨hw, hd⟩ := hf.fr o e b k' ho hb
    refine ⟨fun x => hD (hd x), hk, he, fun hm => ?_⟩
    obtain ⟨c, ty, h1, h2, h3⟩ := hc hm
    refine ⟨c, ty, hw.trans h1, h2, fun i x j t hi hx ht => ?_⟩
    obtain ⟨v, hv, hk', hr⟩ := h3 i x j t hi hx ht
    exact ⟨v, hv, hk', hr.mono hf.ext⟩
  | map es =>
    intro e b k hb
    rw [hf.bt o e ho] at hb
    obtain ⟨h0, hD, mes, clock, h1, h2, h3⟩ := h e b k hb
    obtain ⟨hw, hd⟩ := hf.fr o e b k ho hb
    exact ⟨h0, fun x => hD (hd x), mes, clock, hw.trans h1, h2, fun i m kv hm hk => ⟨(h3 i m kv hm hk).1, (h3 i m kv hm hk).2.mono hf.ext⟩⟩
  | loop f env params assign body busy pending =>
    intro e b k hb
    rw [hf.bt o e ho] at hb
    obtain ⟨h0, hD, L, h1, h2, h3, h4, h5, h6, h7, h8⟩ := h e b k hb
    obtain ⟨hw, hd⟩ := hf.fr o e b k ho hb
    exact ⟨h0, fun x => hD (hd x), L, hw.trans h1, h2, h3, h4, h5, h6, h7, h8.mono hf.ext⟩

/-- The whole invariant behind a step that keeps to S. -/
theorem Inv.step [Cp] {S : Nat → Prop} {Z : Base} {D D' : Dom} {β β' : Bet} {w w' : World} {h h' : Heap} (hi : Inv Z D β h w)
    (hg : GInv Z D' β' w') (hf : Frm S D β w D' β' w') (ha : ∀ o : Nat, ¬ S o → h'[o]? = h[o]?) (hS : ∀ (o : Nat) x, S o → h'[o]? = some x → ObjOk D' β' w' o x)
    (hl : h.length ≤ h'.length) (hd : ∀ o e y, S o → β' o e = some y → o < h'.length) : Inv Z D' β' h' w' := by
  refine ⟨hg, fun o x hx => ?_, fun o e y hy => ?_⟩
  · by_cases hs : S o
    · exact hS o x hs hx
    · rw [ha o hs] at hx
      exact (hi.obj o x hx).frame hf hs
  · by_cases hs : S o
    · exact hd o e y hs hy
    · rw [hf.bt o e hs] at hy
      exact Nat.lt_of_lt_of_le (hi.dom o e y hy) hl

end Go.Abs

/- Small laws on how values are stood for: cells, aggregates, plain values. -/
namespace Go.Abs
open Go

theorem allT_eq {cs : List AV} {ts : List T} (h : allT cs = some ts) : cs = ts.map .t := by
  induction cs generalizing ts with
  | nil => simp [allT] at h; subst h; rfl
  | cons c r ih =>
    cases c <;> simp only [allT] at h <;> try (exact absurd h (by simp))
    rename_i x
    cases hr : allT r with
    | none => simp [hr] at h
    | some xs => simp [hr] at h; subst h; simp [ih hr]

theorem allT_map (ts : List T) : allT (ts.map .t) = some ts := by
  induction ts with
  | nil => rfl
  | cons x r ih => simp [allT, ih]

theorem mkAgg_map (ts : List T) : mkAgg (ts.map .t) = .t (.agg ts) := by simp [mkAgg, allT_map]

theorem mkAgg_cells (cs : List AV) : (mkAgg cs).cells = cs := by
  unfold mkAgg
  cases h : allT cs with
  | none => rfl
  | some ts => simp [AV.cells, allT_eq h]

theorem mkAgg_isAgg (cs : List AV) : (mkAgg cs).isAgg = true := by
  unfold mkAgg
  cases h : allT cs <;> rfl

section
variable {D : Dom} {β : Bet} {w : World}

theorem Rep.toT {v : Value} {x : T} (h : Rep D β w v (.t x)) : RepT D w v x := by
  cases h with
  | t _ _ h => exact h

theorem Rep.mkAgg {cs : Array Value} {ts : List AV} (hl : cs.size = ts.length) (h : ∀ (i : Nat) v t, cs[i]? = some v → ts[i]? = some t → Rep D β w v t) : Rep D β w (.agg cs) (mkAgg ts) := by
  unfold Go.Abs.mkAgg
  cases ha : allT ts with
  | none => exact .agg cs ts hl h
  | some xs =>
    have e := allT_eq ha
    subst e
    refine .t _ _ (.agg cs xs (by simpa using hl) fun i v t hv ht => ?_)
    exact (h i v (.t t) hv (by simp [ht])).toT

theorem Rep.mkTup {cs : Array Value} {ts : List AV} (hl : cs.size = ts.length) (h : ∀ (i : Nat) v t, cs[i]? = some v → ts[i]? = some t → Rep D β w v t) : Rep D β w (.tuple cs) (mkTup ts) := by
  unfold Go.Abs.mkTup
  cases ha : allT ts with
  | none => exact .tup cs ts hl h
  | some xs =>
    have e := allT_eq ha
    subst e
    refine .t _ _ (.tup cs xs (by simpa using hl) fun i v t hv ht => ?_)
    exact (h i v (.t t) hv (by simp [ht])).toT

/-- The cells of a value are stood for one by one. -/
theorem Rep.cells {v : Value} {x : AV} (h : Rep D β w v x) (hx : x ≠ .dead) :
    v.cells.size = x.cells.length ∧ ∀ (j : Nat) c t, v.cells[j]? = some c → x.cells[j]? = some t → Rep D β w c t := by
  have single : ∀ {v : Value} {x : AV}, Rep D β w v x → v.cells = #[v] → x.cells = [x] →
      v.cells.size = x.cells.length ∧ ∀ (j : Nat) c t, v.cells[j]? = some c → x.cells[j]? = some t → Rep D β w c t := by
    intro v x h e1 e2
    rw [e1, e2]
    refine ⟨rfl, fun j c t hc ht => ?_⟩
    cases j with
    | zero => simp at hc ht; subst hc; subst ht; exact h
    | succ j => simp at hc
  cases h with
  | dead v => exact absurd rfl hx
  | agg cs ts hl h => exact ⟨hl, h⟩
  | tup cs ts hl h => exact single (.tup cs ts hl h) rfl rfl
  | fn f a b x y ha hb h1 h2 => exact single (.fn f a b x y ha hb h1 h2) rfl rfl
  | ref o e i off b k hb => exact single (.ref o e i off b k hb) rfl rfl
  | ms0 a o e i k clip => exact single (.ms0 a o e i k clip) rfl rfl
  | ms o e i len k clip b cap n hb hle hcap hclip hn hsz => exact single (.ms o e i len k clip b cap n hb hle hcap hclip hn hsz) rfl rfl
  | mp o b k hb => exact single (.mp o b k hb) rfl rfl
  | yl o b k hb => exact single (.yl o b k hb) rfl rfl
  | t _ y h =>
    cases h with
    | sc v hv =>
      refine single (.t _ _ (.sc v hv)) ?_ rfl
      cases v <;> first | rfl | (simp [noAgg] at hv)
    | agg cs ts hl h =>
      refine ⟨by simpa [Value.cells, AV.cells] using hl, fun j c t hc ht => ?_⟩
      simp only [AV.cells, List.getElem?_map, Option.map_eq_some_iff] at ht
      obtain ⟨u, hu, rfl⟩ := ht
      exact .t _ _ (h j c u hc hu)
    | tup cs ts hl h => exact single (.t _ _ (.tup cs ts hl h)) rfl rfl
    | fn f a b x y ha hb h1 h2 => exact single (.t _ _ (.fn f a b x y ha hb h1 h2)) rfl rfl
    | ip b off cs hD c hc h => exact single (.t _ _ (.ip b off cs hD c hc h)) rfl rfl
    | nosl a cap clip k hc => exact single (.t _ _ (.nosl a cap clip k hc)) rfl rfl
    | sl b off len cap clip k xs hD hlen hcap hclip hk c hc h => exact single (.t _ _ (.sl b off len cap clip k xs hD hlen hcap hclip hk c hc h)) rfl rfl

theorem cells_ne_dead {x : AV} (h : 0 < x.cells.length) : x ≠ .dead := by
  rintro rfl; simp [AV.cells] at h

theorem RepT.cells {v : Value} {x : T} (h : RepT D w v x) :
    v.cells.size = x.cells.length ∧ ∀ (j : Nat) c t, v.cells[j]? = some c → x.cells[j]? = some t → RepT D w c t := by
  have h' := Rep.cells (β := fun _ _ => none) (.t _ _ h) (by simp)
  have e : (AV.t x).cells = x.cells.map .t := by cases x <;> rfl
  rw [e] at h'
  refine ⟨by simpa using h'.1, fun j c t hc ht => ?_⟩
  exact (h'.2 j c (.t t) hc (by simp [ht])).toT

theorem tcells (x : T) : (AV.t x).cells = x.cells.map .t := by cases x <;> rfl

theorem isAgg_cells {v : Value} {x : AV} (h : Rep D β w v x) (hx : x.isAgg = true) : ∃ cs, v = .agg cs := by
  cases h <;> simp [AV.isAgg] at hx
  · rename_i h
    cases h <;> simp at hx
    exact ⟨_, rfl⟩
  · exact ⟨_, rfl⟩

theorem okVal_rep {v : Value} (h : okVal v = true) : RepT D w v (ofVal v) := by
  by_cases ha : ∃ cs, v = .agg cs
  · obtain ⟨cs, rfl⟩ := ha
    simp only [ofVal]
    refine .agg cs _ (by simp) fun i v t hv ht => ?_
    simp only [List.getElem?_map, Option.map_eq_some_iff] at ht
    obtain ⟨u, hu, rfl⟩ := ht
    have : u = v := by simp at hu; rw [hu] at hv; exact Option.some.inj hv
    subst this
    refine .sc _ ?_
    simp only [okVal, List.all_eq_true] at h
    exact h u (List.mem_of_getElem? hu)
  · have e : ofVal v = .sc v := by cases v <;> first | rfl | (exact absurd ⟨_, rfl⟩ ha)
    rw [e]
    refine .sc v ?_
    cases v <;> first | rfl | (exact absurd ⟨_, rfl⟩ ha)

theorem scVals_eq {ts : List T} {vs : List Value} (h : scVals ts = some vs) : ts = vs.map .sc := by
  induction ts generalizing vs with
  | nil => simp [scVals] at h; subst h; rfl
  | cons c r ih =>
    cases c <;> simp only [scVals] at h <;> try (exact absurd h (by simp))
    cases hr : scVals r with
    | none => simp [hr] at h
    | some xs => simp [hr] at h; subst h; simp [ih hr]

theorem RepT.sc_eq {v x : Value} (h : RepT D w v (.sc x)) : v = x ∧ noAgg x = true := by
  cases h with
  | sc v hv => exact ⟨rfl, hv⟩

theorem RepT.val? {v v' : Value} {x : T} (h : RepT D w v x) (hx : x.val? = some v') : v = v' := by
  cases h with
  | sc v hv => simp [T.val?] at hx; exact hx
  | agg cs ts hl h =>
    simp only [T.val?] at hx
    cases hs : scVals ts with
    | none => simp [hs] at hx
    | some vs =>
      simp [hs] at hx
      subst hx
      have e := scVals_eq hs
      subst e
      congr 1
      apply Array.ext'
      simp only
      apply List.ext_getElem?
      intro i
      by_cases hi : i < cs.size
      · have h1 : cs[i]? = some cs[i] := by simp [hi]
        have hi' : i < vs.length := by simpa [hl] using hi
        have h2 : (vs.map T.sc)[i]? = some (.sc vs[i]) := by simp [hi']
        have := (h i cs[i] (.sc vs[i]) h1 h2).sc_eq
        simp [hi, hi', this.1]
      · have hi' : ¬ i < vs.length := by simpa [hl] using hi
        simp [hi, hi']
  | _ => simp [T.val?] at hx

theorem Rep.val? {v v' : Value} {x : AV} (h : Rep D β w v x) (hx : x.val? = some v') : v = v' := by
  cases x <;> simp [AV.val?] at hx
  exact h.toT.val? hx

end
end Go.Abs

/- What the model's own small computations come to, given what the evaluator has looked up. -/
namespace Go.Abs
open Go

variable {P : Program}

theorem pureRun_run {α : Type} {m : Sem α} {a : α} (h : pureRun P m = some a) (w : World) : m.run P w = .ok a w := by
  induction m with
  | pure x => simp [pureRun] at h; subst h; rfl
  | program k ih => simp only [pureRun] at h; simp only [Sem.run]; exact ih P h
  | _ => simp [pureRun] at h

theorem run_underlying {t : TypeId} {d : TypeDesc} (h : typ P t = some d) (w : World) : (underlying t).run P w = .ok d w := by
  simp only [typ] at h
  simp [underlying, program, Sem.run, h, bind, Sem.bind, pure]

theorem run_typeInfo {t : TypeId} {i : TypeInfo} (h : P.info? t = some i) (w : World) : (typeInfo t).run P w = .ok i w := by
  simp [typeInfo, program, Sem.run, h, bind, Sem.bind, pure]

theorem szOf_info {t : TypeId} {n : Nat} (h : szOf P t = some n) : ∃ i, P.info? t = some i ∧ i.size = n := by
  unfold szOf at h
  cases hi : P.info? t with
  | none => simp [hi] at h
  | some i => simp [hi] at h; exact ⟨i, rfl, h⟩

theorem byOf_info {t : TypeId} {n : Nat} (h : byOf P t = some n) : ∃ i, P.info? t = some i ∧ i.bytes = n := by
  unfold byOf at h
  cases hi : P.info? t with
  | none => simp [hi] at h
  | some i => simp [hi] at h; exact ⟨i, rfl, h⟩

theorem run_sizeOf {t : TypeId} {n : Nat} (h : szOf P t = some n) (w : World) : (Go.sizeOf t).run P w = .ok n w := by
  obtain ⟨i, hi, rfl⟩ := szOf_info h
  simp [Go.sizeOf, run_typeInfo hi, Result.andThen]

theorem zeroOf_val {t : TypeId} {z : T} (h : zeroOf P t = some z) : ∃ v, okVal v = true ∧ z = ofVal v ∧ ∀ w, (zeroValue t).run P w = .ok v w := by
  unfold zeroOf at h
  cases hi : P.info? t with
  | none => simp [hi] at h
  | some i =>
    simp only [hi] at h
    cases hz : i.zero with
    | none => simp [hz] at h
    | some v =>
      simp only [hz] at h
      by_cases ho : okVal v = true
      · simp [ho] at h
        exact ⟨v, ho, h.symm, fun w => by simp [zeroValue, run_typeInfo hi, Result.andThen, hz, Sem.run, pure]⟩
      · simp [ho] at h

theorem run_isAgg {t : TypeId} {b : Bool} (h : aggB P t = some b) (w : World) : (isAgg t).run P w = .ok b w := by
  unfold aggB at h
  cases hd : P.underlying t with
  | none => simp [hd] at h
  | some d =>
    simp only [hd] at h
    simp only [isAgg, Sem.run_bind, run_underlying (t := t) (d := d) hd, Result.andThen]
    cases d <;> simp at h <;> subst h <;> rfl

theorem addr_add (b off n : Nat) : (⟨b, off, none⟩ : Addr).add n = ⟨b, off + n, none⟩ := by
  unfold Addr.add
  by_cases h : n = 0
  · simp [h]
  · simp [h]

theorem run_load {w : World} {a : Addr} {v : Value} (h : w.cell? a = some v) : (load a).run P w = .ok v w := by
  simp [load, Sem.run, h]

theorem run_loadCellsFrom {w : World} {b off : Nat} {c : Nat → Value} (n i : Nat) (acc : Array Value) (h : ∀ j, i ≤ j → j < i + n → w.cell? ⟨b, off + j, none⟩ = some (c j)) :
    (loadCellsFrom ⟨b, off, none⟩ i n acc).run P w = .ok (acc ++ ((List.range' i n).map c).toArray) w := by
  induction n generalizing i acc with
  | zero => simp [loadCellsFrom, Sem.run, pure]
  | succ n ih =>
    have h0 : w.cell? ((⟨b, off, none⟩ : Addr).add i) = some (c i) := by rw [addr_add]; exact h i (Nat.le_refl _) (by omega)
    simp only [loadCellsFrom, Sem.run_bind, run_load h0, Result.andThen]
    rw [ih (i + 1) (acc.push (c i)) (fun j h1 h2 => h j (by omega) (by omega))]
    congr 1
    apply Array.ext'
    simp [List.range'_succ]

theorem run_loadCells {w : World} {b off : Nat} {c : Nat → Value} (n : Nat) (h : ∀ j, j < n → w.cell? ⟨b, off + j, none⟩ = some (c j)) :
    (loadCells ⟨b, off, none⟩ n).run P w = .ok ((List.range n).map c).toArray w := by
  have := run_loadCellsFrom (P := P) (w := w) (b := b) (off := off) (c := c) n 0 #[] (fun j _ h2 => h j (by omega))
  simpa [loadCells, List.range_eq_range'] using this

/-- A world with the cells of a list written into a block from a place on. -/
def wrote (w : World) (b off : Nat) : List Value → World
  | [] => w
  | v :: r => wrote (w.setCell ⟨b, off, none⟩ v) b (off + 1) r

theorem wrote_facts (vs : List Value) : ∀ (w : World) (b off : Nat) (c : Array Value) (ty : TypeId) (fr : Nat × Nat), w.heap[b]? = some (.cells c ty fr) → off + vs.length ≤ c.size →
    (wrote w b off vs).heap.size = w.heap.size ∧ (wrote w b off vs).os = w.os ∧ (wrote w b off vs).output = w.output ∧
    (∀ b', b' ≠ b → (wrote w b off vs).heap[b']? = w.heap[b']?) ∧
    ∃ c', (wrote w b off vs).heap[b]? = some (.cells c' ty fr) ∧ c'.size = c.size ∧ ∀ j : Nat, c'[j]? = if off ≤ j ∧ j < off + vs.length then vs[j - off]? else c[j]? := by
  induction vs with
  | nil =>
    intro w b off c ty fr hb hl
    refine ⟨rfl, rfl, rfl, fun _ _ => rfl, c, hb, rfl, fun j => ?_⟩
    rw [if_neg (by simp only [List.length_nil]; omega)]
  | cons v r ih =>
    intro w b off c ty fr hb hl
    have hl' : off < c.size := by simp at hl; omega
    have hlt : b < w.heap.size := (Array.getElem?_eq_some_iff.1 hb).1
    have h1 : (w.setCell ⟨b, off, none⟩ v).heap[b]? = some (.cells (c.setIfInBounds off v) ty fr) := by
      simp only [World.setCell, Array.getElem?_modify, if_true, hb, Option.map_some]
      rfl
    obtain ⟨e1, e2, e3, e4, c', e5, e6, e7⟩ := ih (w.setCell ⟨b, off, none⟩ v) b (off + 1) _ ty fr h1 (by simp at hl ⊢; omega)
    refine ⟨?_, ?_, ?_, ?_, c', e5, ?_, ?_⟩
    · simp only [wrote]; rw [e1]; simp
    · simp only [wrote]; rw [e2]; rfl
    · simp only [wrote]; rw [e3]; rfl
    · intro b' hb'
      simp only [wrote]
      rw [e4 b' hb']
      simp only [World.setCell, Array.getElem?_modify]
      rw [if_neg (fun h => hb' h.symm)]
    · rw [e6]; simp
    · intro j
      rw [e7 j]
      by_cases hj : off + 1 ≤ j ∧ j < off + 1 + r.length
      · rw [if_pos hj, if_pos (by simp; omega)]
        have : j - off = (j - (off + 1)) + 1 := by omega
        rw [this]; simp
      · rw [if_neg hj]
        by_cases hj2 : j = off
        · subst hj2
          rw [if_pos (by simp)]
          simp [hl']
        · rw [if_neg (by simp; omega)]
          simp [Array.getElem?_setIfInBounds, Ne.symm hj2]

theorem run_storeCells (vs : List Value) : ∀ (w : World) (b off i : Nat) (c : Array Value) (ty : TypeId), w.heap[b]? = some (.cells c ty (0, 0)) → off + i + vs.length ≤ c.size → (∀ v ∈ vs, okCell v = true) →
    (storeCells ⟨b, off, none⟩ vs i).run P w = .ok () (wrote w b (off + i) vs) := by
  induction vs with
  | nil => intro w b off i c ty _ _ _; simp [storeCells, Sem.run, pure, wrote]
  | cons v r ih =>
    intro w b off i c ty hb hl ho
    have hl' : off + i < c.size := by simp at hl; omega
    have hc : w.cell? ⟨b, off + i, none⟩ = some c[off + i] := by simp [World.cell?, hb, hl']
    have hf : w.frozen? ⟨b, off + i, none⟩ = false := by simp [World.frozen?, hb]
    have hv : okCell v = true := ho v (by simp)
    have hst : (store ((⟨b, off, none⟩ : Addr).add i) v).run P w = .ok () (w.setCell ⟨b, off + i, none⟩ v) := by
      rw [addr_add]
      unfold store
      cases v <;> first | (simp only [Sem.run, hc, hf]; rfl) | (simp [okCell] at hv)
    have h1 : (w.setCell ⟨b, off + i, none⟩ v).heap[b]? = some (.cells (c.setIfInBounds (off + i) v) ty (0, 0)) := by
      simp only [World.setCell, Array.getElem?_modify, if_true, hb, Option.map_some]
      rfl
    simp only [storeCells, Sem.run_bind, hst, Result.andThen]
    rw [ih (w.setCell ⟨b, off + i, none⟩ v) b off (i + 1) _ ty h1 (by simp at hl ⊢; omega) (fun u hu => ho u (by simp [hu]))]
    simp only [wrote]
    rfl

theorem run_newRow (w : World) (ty : TypeId) (c : Array Value) : (Go.newRow ty c).run P w = .ok ⟨w.heap.size, 0, none⟩ (w.alloc (.cells c ty (0, 0))) := by
  rfl

end Go.Abs

/- The operations that leave the abstract heap alone: loads, addresses, slices, fields, literals, comparisons. -/
namespace Go.Abs
open Go

variable {P : Program} {D : Dom} {β : Bet} {w : World}

theorem asNat_rep {v : Value} {x : AV} {n : Nat} (h : Rep D β w v x) (hx : asNat x = some n) : ∃ k, v = .int k n := by
  unfold asNat at hx
  split at hx
  · rename_i k m
    obtain ⟨rfl, _⟩ := h.toT.sc_eq
    by_cases hm : 0 ≤ m
    · simp [hm] at hx; subst hx; exact ⟨k, by rw [Int.toNat_of_nonneg hm]⟩
    · simp [hm] at hx
  · simp at hx

theorem takeVarT_map {t : TypeId} {cs : List T} {x : T} (h : takeVarT P t cs = some x) : takeVar P t (cs.map .t) = some (.t x) := by
  unfold takeVarT at h
  unfold takeVar
  cases ha : aggB P t with
  | none => simp [ha] at h
  | some b =>
    cases b with
    | true =>
      cases hs : szOf P t with
      | none => simp [ha, hs] at h
      | some n =>
        simp only [ha, hs] at h ⊢
        by_cases hn : n ≤ cs.length
        · rw [if_pos hn] at h
          rw [if_pos (by simpa using hn)]
          simp at h
          rw [← h, ← List.map_take, mkAgg_map]
        · simp [hn] at h
    | false =>
      simp only [ha] at h ⊢
      cases cs with
      | nil => simp at h
      | cons c r => simp at h; simp [h]

theorem run_loadVar {t : TypeId} {cs : List AV} {x : AV} {b off : Nat} {c : Nat → Value} (h : takeVar P t cs = some x)
    (hc : ∀ j, j < cs.length → w.cell? ⟨b, off + j, none⟩ = some (c j)) (hr : ∀ (j : Nat) u, cs[j]? = some u → Rep D β w (c j) u) :
    ∃ v, (loadVar t ⟨b, off, none⟩).run P w = .ok v w ∧ Rep D β w v x := by
  unfold takeVar at h
  cases ha : aggB P t with
  | none => simp [ha] at h
  | some ab =>
    cases ab with
    | true =>
      cases hs : szOf P t with
      | none => simp [ha, hs] at h
      | some n =>
        simp only [ha, hs] at h
        by_cases hn : n ≤ cs.length
        · rw [if_pos hn] at h
          simp at h
          subst h
          refine ⟨_, by simp only [loadVar, Sem.run_bind, run_isAgg ha, Result.andThen, run_sizeOf hs, if_true, run_loadCells n (fun j hj => hc j (by omega))]; rfl, ?_⟩
          refine Rep.mkAgg (by simp; omega) fun i v u hv hu => ?_
          have hi : i < n := by
            have := (List.getElem?_eq_some_iff.1 hu).1
            simp at this; omega
          have e : c i = v := by simpa [hi] using hv
          subst e
          exact hr i u (by simpa [List.getElem?_take, hi] using hu)
        · simp [hn] at h
    | false =>
      simp only [ha] at h
      cases cs with
      | nil => simp at h
      | cons d r =>
        simp at h
        subst h
        have h0 := hc 0 (by simp)
        exact ⟨c 0, by simp only [loadVar, Sem.run_bind, run_isAgg ha, Result.andThen]; simpa using run_load (by simpa using h0), hr 0 d (by simp)⟩

/-- A row's cells, from one of its elements on. -/
theorem RowOk.cell {o k : Nat} {elems : List AV} {mr e b k' i : Nat} {x : AV} (h : RowOk D β w o k elems mr) (hb : β o e = some (b, k')) (hm : mr ≤ e) (hi : i < e) (hx : elems[i]? = some x) :
    k' = k ∧ ∃ c : Nat → Value, ∀ (j : Nat) u, x.cells[j]? = some u → w.cell? ⟨b, i * k + j, none⟩ = some (c j) ∧ okCell (c j) = true ∧ Rep D β w (c j) u := by
  obtain ⟨hD, hk, he, hc⟩ := h.2 e b k' hb
  obtain ⟨c, ty, h1, h2, h3⟩ := hc hm
  refine ⟨hk, fun j => (c[i * k + j]?).getD default, fun j u hu => ?_⟩
  obtain ⟨v, hv, hok, hr⟩ := h3 i x j u hi hx hu
  simp only [hv, Option.getD_some]
  exact ⟨by simp [World.cell?, h1, hv], hok, hr⟩

theorem rowAt_some {h : Heap} {o e i : Nat} {x : AV} (hr : rowAt h o e i = some x) : ∃ k elems mr, h[o]? = some (.row k elems mr) ∧ mr ≤ e ∧ i < e ∧ e ≤ elems.length ∧ elems[i]? = some x := by
  unfold rowAt at hr
  split at hr
  · rename_i k elems mr ho
    by_cases hc : mr ≤ e ∧ i < e ∧ e ≤ elems.length
    · rw [if_pos hc] at hr
      exact ⟨k, elems, mr, ho, hc.1, hc.2.1, hc.2.2, hr⟩
    · simp [hc] at hr
  · simp at hr

theorem aLoad_run [Cp] {h : Heap} {t : TypeId} {a x : AV} {va : Value} (hl : aLoad P t a h = some x) (ha : Rep D β w va a)
    (hobj : ∀ (o : Nat) y, o ∈ objsOf a → h[o]? = some y → ObjOk D β w o y) : ∃ v, (Instr.loadAt t va).run P w = .ok v w ∧ Rep D β w v x := by
  unfold aLoad at hl
  split at hl
  · rename_i cs
    have ht := ha.toT
    cases ht with
    | ip b off cs hD c hc hr =>
      cases hv : takeVarT P t cs with
      | none => simp [hv] at hl
      | some y =>
        simp [hv] at hl
        subst hl
        have := run_loadVar (P := P) (D := D) (β := β) (w := w) (takeVarT_map hv) (b := b) (off := off) (c := c) (fun j hj => (hc j (by simpa using hj)).1)
          (fun j u hu => by
            simp only [List.getElem?_map, Option.map_eq_some_iff] at hu
            obtain ⟨u', hu', rfl⟩ := hu
            exact .t _ _ (hr j u' hu'))
        obtain ⟨v, h1, h2⟩ := this
        exact ⟨v, by simpa [Instr.loadAt, Instr.sureAddr, Sem.run, pure, Result.andThen] using h1, h2⟩
  · rename_i o e i off
    cases hr : rowAt h o e i with
    | none => simp [hr] at hl
    | some y =>
      simp only [hr] at hl
      obtain ⟨k, elems, mr, ho, hm, hi, he, hy⟩ := rowAt_some hr
      have hok := hobj o _ (by simp [objsOf]) ho
      cases ha with
      | ref _ _ _ _ b k' hb =>
        obtain ⟨rfl, c, hcell⟩ := RowOk.cell hok hb hm hi hy
        have := run_loadVar (P := P) (D := D) (β := β) (w := w) hl (b := b) (off := i * k' + off) (c := fun j => c (off + j))
          (fun j hj => by
            have hlt : off + j < y.cells.length := by simp at hj; omega
            have := hcell (off + j) y.cells[off + j] (by simp [hlt])
            rw [Nat.add_assoc]; exact this.1)
          (fun j u hu => by
            simp only [List.getElem?_drop] at hu
            exact (hcell (off + j) u hu).2.2)
        obtain ⟨v, h1, h2⟩ := this
        exact ⟨v, by simpa [Instr.loadAt, Instr.sureAddr, Sem.run, pure, Result.andThen] using h1, h2⟩
  · simp at hl

theorem aField_some {s : TypeId} {f : Nat} {t : TypeId} {off : Nat} (h : aField P s f = some (t, off)) :
    ∃ fields fd n, typ P s = some (.struct fields) ∧ fields[f]? = some fd ∧ fd.type = t ∧ fd.offset = off ∧ szOf P fd.type = some (n + 1) := by
  unfold aField at h
  split at h
  · rename_i fields hs
    split at h
    · rename_i fd hf
      split at h
      · rename_i n hn
        simp at h
        exact ⟨fields, fd, n, hs, hf, h.1, h.2, hn⟩
      · simp at h
    · simp at h
  · simp at h

theorem aFieldAddr_run {s : TypeId} {x y : AV} {f : Nat} {vx : Value} (h : aFieldAddr P s x f = some y) (hx : Rep D β w vx x) :
    ∃ v, (Instr.fieldAt s vx f).run P w = .ok v w ∧ Rep D β w v y := by
  unfold aFieldAddr at h
  cases hf : aField P s f with
  | none => simp [hf] at h
  | some r =>
    obtain ⟨t, off⟩ := r
    obtain ⟨fields, fd, n, hs, hfd, rfl, rfl, hn⟩ := aField_some hf
    simp only [hf] at h
    have hrun : ∀ b o, (Instr.fieldAt s (.pointer (some ⟨b, o, none⟩)) f).run P w = .ok (.pointer (some ⟨b, o + fd.offset, none⟩)) w := by
      intro b o
      simp only [Instr.fieldAt, Sem.run_bind, run_underlying hs, Result.andThen, hfd]
      simp [Instr.sureAddr, fieldPlace, run_sizeOf hn, Result.andThen, Sem.run, pure, addr_add]
    split at h
    · rename_i cs
      simp at h
      subst h
      have ht := hx.toT
      cases ht with
      | ip b o cs hD c hc hr =>
        refine ⟨_, hrun b o, .t _ _ (.ip b (o + fd.offset) _ hD (fun j => c (fd.offset + j)) (fun j hj => ?_) (fun j u hu => ?_))⟩
        · rw [Nat.add_assoc]; exact hc _ (by simp at hj; omega)
        · simp only [List.getElem?_drop] at hu
          exact hr _ u hu
    · rename_i o e i k
      simp at h
      subst h
      cases hx with
      | ref _ _ _ _ b k' hb =>
        refine ⟨_, hrun b _, ?_⟩
        rw [Nat.add_assoc]
        exact .ref o e i _ b k' hb
    · simp at h

theorem run_asIntOf (k : IntKind) (n : Int) : (asIntOf (.int k n)).run P w = .ok (k, n) w := rfl

theorem aIndexAddr_run {t : TypeId} {x ix y : AV} {vx vi : Value} (h : aIndexAddr P t x ix = some y) (hx : Rep D β w vx x) (hi : Rep D β w vi ix) :
    ∃ v, (Instr.indexAt t vx vi).run P w = .ok v w ∧ Rep D β w v y := by
  unfold aIndexAddr at h
  split at h
  · rename_i len elem k ht hk
    obtain ⟨ik, rfl⟩ := asNat_rep hi hk
    cases hs : szOf P elem with
    | none => simp [hs] at h
    | some size =>
      simp only [hs] at h
      by_cases hlt : k < len
      · rw [if_pos hlt] at h
        have hrun : ∀ b o, (Instr.indexAt t (.pointer (some ⟨b, o, none⟩)) (.int ik k)).run P w = .ok (.pointer (some ⟨b, o + k * size, none⟩)) w := by
          intro b o
          simp only [Instr.indexAt, Sem.run_bind, run_asIntOf, run_underlying ht, Result.andThen, Instr.sureAddr]
          have hc : (0 : Int) ≤ k ∧ (k : Int) < len := by omega
          simp [Sem.run, pure, Result.andThen, run_underlying ht, run_sizeOf hs, addr_add, hc]
        split at h
        · simp at h
          subst h
          have hxt := hx.toT
          cases hxt with
          | ip b o cs hD c hc hr =>
            refine ⟨_, hrun b o, .t _ _ (.ip b (o + k * size) _ hD (fun j => c (k * size + j)) (fun j hj => ?_) (fun j u hu => ?_))⟩
            · rw [Nat.add_assoc]; exact hc _ (by simp at hj; omega)
            · simp only [List.getElem?_drop] at hu
              exact hr _ u hu
        · rename_i o e i off
          simp at h
          subst h
          cases hx with
          | ref _ _ _ _ b k' hb =>
            refine ⟨_, hrun b _, ?_⟩
            rw [Nat.add_assoc]
            exact .ref o e i _ b k' hb
        · simp at h
      · simp [hlt] at h
  · rename_i elem j ht hj
    obtain ⟨ik, rfl⟩ := asNat_rep hi hj
    have hrun : ∀ (b o len cap size : Nat), szOf P elem = some size → j < len → (Instr.indexAt t (.slice (some ⟨b, o, none⟩) len cap) (.int ik j)).run P w = .ok (.pointer (some ⟨b, o + j * size, none⟩)) w := by
      intro b o len cap size hs hlt
      simp only [Instr.indexAt, Sem.run_bind, run_asIntOf, run_underlying ht, Result.andThen]
      have hc : (0 : Int) ≤ j ∧ (j : Int) < len := by omega
      simp [Sem.run, pure, Result.andThen, run_underlying ht, run_sizeOf hs, addr_add, hc]
    split at h
    · rename_i clip k xs size hs
      cases hv : xs[j]? with
      | none => simp [hv] at h
      | some v =>
        simp only [hv] at h
        by_cases hk : k = size
        · subst hk
          simp at h
          subst h
          have hxt := hx.toT
          cases hxt with
          | nosl => simp at hv
          | sl b o len cap _ _ _ hD hlen hcap hclip hkk c hc hr =>
            have hjl : j < len := by rw [hlen]; exact (List.getElem?_eq_some_iff.1 hv).1
            have hvl := hkk j v hv
            refine ⟨_, hrun b o len cap k hs hjl, .t _ _ (.ip b (o + j * k) _ hD (fun i => c (j * k + i)) (fun i hi' => ?_) (fun i u hu => hr j v i u hv hu))⟩
            rw [Nat.add_assoc]
            refine hc _ ?_
            have h1 : (j + 1) * k ≤ len * k := Nat.mul_le_mul_right k hjl
            have h2 : (j + 1) * k = j * k + k := Nat.succ_mul j k
            omega
        · simp [hk] at h
    · rename_i o e i len k clip size hs
      by_cases hc : j < len ∧ k = size
      · rw [if_pos hc] at h
        obtain ⟨hjl, rfl⟩ := hc
        simp at h
        subst h
        cases hx with
        | ms0 => omega
        | ms _ _ _ _ _ _ b cap n hb hle hcap hclip hn hsz =>
          refine ⟨_, hrun b (i * k) len cap k hs hjl, ?_⟩
          have : i * k + j * k = (i + j) * k + 0 := by rw [Nat.add_mul]; omega
          rw [this]
          exact .ref o e (i + j) 0 b k hb
      · simp [hc] at h
    · simp at h
  · simp at h

/-- A part of an aggregate's cells. -/
theorem run_part {t : TypeId} {cs : Array Value} {xs : List AV} {off : Nat} {y : AV} (h : takeVar P t (xs.drop off) = some y) (hl : cs.size = xs.length)
    (hr : ∀ (i : Nat) v x, cs[i]? = some v → xs[i]? = some x → Rep D β w v x) : ∃ v, (part t cs off).run P w = .ok v w ∧ Rep D β w v y := by
  unfold takeVar at h
  cases ha : aggB P t with
  | none => simp [ha] at h
  | some ab =>
    cases ab with
    | true =>
      cases hs : szOf P t with
      | none => simp [ha, hs] at h
      | some n =>
        simp only [ha, hs] at h
        by_cases hn : n ≤ (xs.drop off).length
        · rw [if_pos hn] at h
          simp at h
          subst h
          refine ⟨.agg (cs.extract off (off + n)), by simp [part, run_isAgg ha, run_sizeOf hs, Result.andThen, Sem.run, pure], ?_⟩
          refine Rep.mkAgg (by simp at hn ⊢; omega) fun i v u hv hu => ?_
          have hi : i < n := by
            have := (List.getElem?_eq_some_iff.1 hu).1
            simp at this; omega
          refine hr (off + i) v u ?_ (by simpa [List.getElem?_take, hi] using hu)
          rw [Array.getElem?_extract] at hv
          split at hv
          · exact hv
          · simp at hv
        · rw [if_neg hn] at h; simp at h
    | false =>
      simp only [ha] at h
      have h0 : xs[off]? = some y := by
        cases hd : xs.drop off with
        | nil => simp [hd] at h
        | cons c r =>
          simp [hd] at h
          subst h
          have := List.getElem?_drop (xs := xs) (i := off) (j := 0)
          simpa [hd] using this.symm
      have hlt : off < cs.size := by rw [hl]; exact (List.getElem?_eq_some_iff.1 h0).1
      refine ⟨cs[off], by simp [part, run_isAgg ha, Result.andThen, Sem.run, pure, hlt], hr off _ y (by simp [hlt]) h0⟩

theorem aFieldVal_run {s : TypeId} {x y : AV} {f off : Nat} {t : TypeId} {vx : Value} (hf : aField P s f = some (t, off)) (ha : x.isAgg = true) (h : takeVar P t (x.cells.drop off) = some y) (hx : Rep D β w vx x) :
    ∃ v, (Instr.field s vx f).run P w = .ok v w ∧ Rep D β w v y := by
  obtain ⟨fields, fd, n, hs, hfd, rfl, rfl, hn⟩ := aField_some hf
  obtain ⟨cs, rfl⟩ := isAgg_cells hx ha
  have hc := hx.cells (by rintro rfl; simp [AV.isAgg] at ha)
  obtain ⟨v, h1, h2⟩ := run_part (P := P) h hc.1 hc.2
  have h1' : (part fd.type cs fd.offset).run P w = .ok v w := h1
  exact ⟨v, by simpa [Instr.field, run_underlying hs, Result.andThen, hfd, asAgg, Sem.run, pure] using h1', h2⟩

theorem aIndex_run {t : TypeId} {x ix y : AV} {vx vi : Value} (h : aIndex P t x ix = some y) (hx : Rep D β w vx x) (hi : Rep D β w vi ix) :
    ∃ v, (Instr.index t vx vi).run P w = .ok v w ∧ Rep D β w v y := by
  unfold aIndex at h
  split at h
  · rename_i len elem k ht hk
    obtain ⟨ik, rfl⟩ := asNat_rep hi hk
    split at h
    · rename_i size hs ha
      by_cases hlt : k < len
      · rw [if_pos hlt] at h
        obtain ⟨cs, rfl⟩ := isAgg_cells hx ha
        have hc := hx.cells (by rintro rfl; simp [AV.isAgg] at ha)
        obtain ⟨v, h1, h2⟩ := run_part (P := P) h hc.1 hc.2
        refine ⟨v, ?_, h2⟩
        have h1' : (part elem cs (k * size)).run P w = .ok v w := h1
        simpa [Instr.index, run_asIntOf, run_underlying ht, Result.andThen, hlt, run_sizeOf hs] using h1'
      · simp [hlt] at h
    · simp at h
  · rename_i k ht hk
    obtain ⟨ik, rfl⟩ := asNat_rep hi hk
    split at h
    · rename_i s
      obtain ⟨rfl, _⟩ := hx.toT.sc_eq
      split at h
      · rename_i b hb
        simp at h
        subst h
        refine ⟨.int .u8 b.toNat, ?_, .t _ _ (.sc _ rfl)⟩
        simp [Instr.index, run_asIntOf, run_underlying ht, Result.andThen, hb, Sem.run, pure]
      · simp at h
    · simp at h
  · simp at h

end Go.Abs

/- Slicing, literals of structs and arrays. -/
namespace Go.Abs
open Go

variable {P : Program} {D : Dom} {β : Bet} {w : World}

def OptRep (D : Dom) (β : Bet) (w : World) : Option Value → Option AV → Prop
  | none, none => True
  | some v, some x => Rep D β w v x
  | _, _ => False

theorem run_sliceBound {v : Value} {x : AV} {n y : Nat} (h : Rep D β w v x) (hx : asNat x = some n) (hn : n ≤ y) (code : BoundsCode) : (Instr.sliceBound v y code).run P w = .ok n w := by
  obtain ⟨k, rfl⟩ := asNat_rep h hx
  have hc : (0 : Int) ≤ n ∧ (n : Int) ≤ y := by omega
  simp [Instr.sliceBound, run_asIntOf, Result.andThen, hc, Sem.run, pure]

/-- The three bounds of a slice expression, where they are in order. -/
theorem run_sliceBounds {isSlice : Bool} {len cap l u : Nat} {lo hi mx : Option Value} {xlo xhi xmx : Option AV} (h1 : OptRep D β w lo xlo) (h2 : OptRep D β w hi xhi) (h3 : OptRep D β w mx xmx)
    (hl : optNat 0 xlo = some l) (hu : optNat len xhi = some u) (hlu : l ≤ u) (hul : u ≤ len) (hlc : len ≤ cap) (hm : ∀ m, xmx = some m → asNat m = some u ∧ xhi.isSome = true) :
    (Instr.sliceBounds isSlice len cap lo hi mx).run P w = .ok (l, u, if xmx.isSome then u else cap) w := by
  have low : (lo = none ∧ l = 0) ∨ ∃ v, lo = some v ∧ ∀ code, (Instr.sliceBound v u code).run P w = .ok l w := by
    cases lo with
    | none => cases xlo with
      | none => simp [optNat] at hl; exact .inl ⟨rfl, hl.symm⟩
      | some _ => exact h1.elim
    | some v => cases xlo with
      | none => exact h1.elim
      | some x => exact .inr ⟨v, rfl, fun code => run_sliceBound h1 (by simpa [optNat] using hl) hlu code⟩
  cases mx with
  | none =>
    cases xmx with
    | some _ => exact h3.elim
    | none =>
      cases hi with
      | none => cases xhi with
        | some _ => exact h2.elim
        | none =>
          simp [optNat] at hu
          subst hu
          rcases low with ⟨rfl, rfl⟩ | ⟨v, rfl, hb⟩
          · simp [Instr.sliceBounds, Result.andThen, pure, Sem.run]
          · simp [Instr.sliceBounds, Result.andThen, pure, Sem.run, hb]
      | some v => cases xhi with
        | none => exact h2.elim
        | some x =>
          have hb2 := fun code => run_sliceBound (P := P) h2 (by simpa [optNat] using hu) (Nat.le_trans hul hlc) code
          rcases low with ⟨rfl, rfl⟩ | ⟨v, rfl, hb⟩
          · simp [Instr.sliceBounds, Result.andThen, pure, Sem.run, hb2]
          · simp [Instr.sliceBounds, Result.andThen, pure, Sem.run, hb, hb2]
  | some vm =>
    cases xmx with
    | none => exact h3.elim
    | some m =>
      obtain ⟨hm1, hm2⟩ := hm m rfl
      have hbm := fun code => run_sliceBound (P := P) h3 hm1 (Nat.le_trans hul hlc) code
      cases hi with
      | none => cases xhi with
        | some _ => exact h2.elim
        | none => simp at hm2
      | some v => cases xhi with
        | none => exact h2.elim
        | some x =>
          have hb2 := fun code => run_sliceBound (P := P) h2 (by simpa [optNat] using hu) (Nat.le_refl u) code
          rcases low with ⟨rfl, rfl⟩ | ⟨v, rfl, hb⟩
          · simp [Instr.sliceBounds, Result.andThen, pure, Sem.run, hb2, hbm]
          · simp [Instr.sliceBounds, Result.andThen, pure, Sem.run, hb, hb2, hbm]

theorem drop_take_get {α : Type} (xs : List α) (l u i : Nat) : ((xs.take u).drop l)[i]? = if l + i < u then xs[l + i]? else none := by
  rw [List.getElem?_drop, List.getElem?_take]

/-- A cut of a slice that reads as a list reads as the cut of the list. -/
theorem RepT.cut {a : Option Addr} {len cap : Nat} {clip : Bool} {k : Nat} {xs : List T} (h : RepT D w (.slice a len cap) (.sl clip k xs)) {l u m : Nat} (hlu : l ≤ u) (hul : u ≤ xs.length) (hum : u ≤ m) (hmc : m ≤ cap)
    (clip' : Bool) (hcl : clip' = true → m = u) : RepT D w (.slice (if m = l then a else a.map (·.add (l * k))) (u - l) (m - l)) (.sl clip' k ((xs.take u).drop l)) := by
  by_cases he : u = l
  · subst he
    have e : (xs.take u).drop u = [] := by simp
    rw [e, Nat.sub_self]
    exact .nosl _ _ _ _ (fun hc => by rw [hcl hc]; omega)
  · cases h with
    | nosl => simp at hul; omega
    | sl b off _ _ _ _ _ hD hlen hcap hclip hk c hc hr =>
      rw [if_neg (by omega)]
      simp only [Option.map_some, addr_add]
      refine .sl b (off + l * k) _ _ clip' k _ hD (by simp; omega) (by omega) (fun hc => by rw [hcl hc]) (fun i x hx => ?_) (fun j => c (l * k + j)) (fun j hj => ?_) (fun i x j t hx ht => ?_)
      · rw [drop_take_get] at hx
        split at hx
        · exact hk _ x hx
        · simp at hx
      · rw [Nat.add_assoc]
        refine hc _ ?_
        have h1 : (u - l) * k + l * k = u * k := by rw [← Nat.add_mul]; congr 1; omega
        have h2 : u * k ≤ len * k := Nat.mul_le_mul_right k (by omega)
        omega
      · rw [drop_take_get] at hx
        split at hx
        · have := hr _ x j t hx ht
          have e : (l + i) * k + j = l * k + (i * k + j) := by rw [Nat.add_mul]; omega
          rwa [e] at this
        · simp at hx

theorem Rep.slice_form {v : Value} {clip : Bool} {k : Nat} {xs : List T} (h : RepT D w v (.sl clip k xs)) : ∃ a cap, v = .slice a xs.length cap ∧ xs.length ≤ cap ∧ (clip = true → cap = xs.length) := by
  cases h with
  | nosl a cap _ _ hc => exact ⟨a, cap, rfl, by simp, by simpa using hc⟩
  | sl b off len cap _ _ _ hD hlen hcap hclip hk c hc hr => subst hlen; exact ⟨_, cap, rfl, hcap, hclip⟩

theorem ms_form {v : Value} {o e i len k : Nat} {clip : Bool} (h : Rep D β w v (.ms o e i len k clip)) : ∃ a cap, v = .slice a len cap ∧ len ≤ cap ∧ (clip = true → cap = len) := by
  cases h with
  | ms0 a => exact ⟨a, 0, rfl, Nat.le_refl _, fun _ => rfl⟩
  | ms _ _ _ _ _ _ b cap n hb hle hcap hclip hn hsz => exact ⟨_, cap, rfl, hcap, hclip⟩

theorem Rep.msCut {a : Option Addr} {len cap o e i k : Nat} {clip : Bool} (h : Rep D β w (.slice a len cap) (.ms o e i len k clip)) {l u m : Nat} (hlu : l ≤ u) (hul : u ≤ len) (hum : u ≤ m) (hmc : m ≤ cap)
    (clip' : Bool) (hcl : clip' = true → m = u) : Rep D β w (.slice (if m = l then a else a.map (·.add (l * k))) (u - l) (m - l)) (.ms o e (i + l) (u - l) k clip') := by
  cases h with
  | ms0 =>
    have h1 : u - l = 0 := by omega
    have h2 : m - l = 0 := by omega
    rw [h1, h2]
    exact .ms0 _ _ _ _ _ _
  | ms _ _ _ _ _ _ b _ n hb hle hcap hclip hn hsz =>
    by_cases hml : m = l
    · have h1 : u - l = 0 := by omega
      have h2 : m - l = 0 := by omega
      rw [h1, h2]
      exact .ms0 _ _ _ _ _ _
    · rw [if_neg hml]
      simp only [Option.map_some, addr_add]
      have e1 : i * k + l * k = (i + l) * k := by rw [Nat.add_mul]
      rw [e1]
      refine .ms o e (i + l) (u - l) k clip' b (m - l) n hb (by omega) (by omega) (fun hc => by rw [hcl hc]) hn ?_
      have h1 : i + l + (m - l) = i + m := by omega
      rw [h1]
      exact Nat.le_trans (Nat.mul_le_mul_right k (by omega)) hsz

theorem aSlice_run {t : TypeId} {x y : AV} {lo hi mx : Option AV} {vx : Value} {vlo vhi vmx : Option Value} (h : aSlice P t x lo hi mx = some y) (hx : Rep D β w vx x)
    (h1 : OptRep D β w vlo lo) (h2 : OptRep D β w vhi hi) (h3 : OptRep D β w vmx mx) : ∃ v, (Instr.sliceAt t vx vlo vhi vmx).run P w = .ok v w ∧ Rep D β w v y := by
  unfold aSlice at h
  split at h
  · rename_i s ht
    obtain ⟨rfl, _⟩ := hx.toT.sc_eq
    split at h
    · rename_i l u hl hu
      by_cases hc : l ≤ u ∧ u ≤ s.size
      · rw [if_pos hc] at h
        simp at h
        subst h
        cases vmx with
        | some _ => exact h3.elim
        | none =>
          refine ⟨_, ?_, .t _ _ (.sc _ rfl)⟩
          have hb := run_sliceBounds (P := P) (isSlice := false) (len := s.size) (cap := s.size) h1 h2 h3 hl hu hc.1 hc.2 (Nat.le_refl _) (fun m hm => by simp at hm)
          simp only [Instr.sliceAt, Instr.slice, Sem.run_bind, run_underlying ht, Result.andThen, Option.isSome_none, Bool.false_eq_true, if_false, pure, Sem.run, hb]
      · simp [hc] at h
    · simp at h
  · rename_i elem clip k xs ht
    split at h
    · rename_i size l u hs hl hu
      by_cases hc : l ≤ u ∧ u ≤ xs.length ∧ k = size
      · rw [if_pos hc] at h
        obtain ⟨hlu, hul, rfl⟩ := hc
        obtain ⟨a, cap, rfl, hcap, hclip⟩ := Rep.slice_form hx.toT
        split at h
        · simp at h
          subst h
          have hb := run_sliceBounds (P := P) (isSlice := true) (len := xs.length) (cap := cap) h1 h2 h3 hl hu hlu hul hcap (fun m hm => by simp at hm)
          refine ⟨.slice (if cap = l then a else a.map (·.add (l * k))) (u - l) (cap - l), ?_, .t _ _ (hx.toT.cut hlu hul (by omega) (Nat.le_refl _) _ ?_)⟩
          · simp [Instr.sliceAt, Instr.slice, run_underlying ht, Result.andThen, hb, run_sizeOf hs, pure, Sem.run]
          · intro hcl
            simp at hcl
            rw [hclip hcl.1, hcl.2]
        · rename_i m
          split at h
          · rename_i m' hm
            by_cases hmu : m' = u ∧ hi.isSome = true
            · rw [if_pos hmu] at h
              simp at h
              subst h
              obtain ⟨rfl, hhi⟩ := hmu
              have hb := run_sliceBounds (P := P) (isSlice := true) (len := xs.length) (cap := cap) h1 h2 h3 hl hu hlu hul hcap (fun m2 hm2 => by simp at hm2; subst hm2; exact ⟨hm, hhi⟩)
              refine ⟨.slice (if m' = l then a else a.map (·.add (l * k))) (m' - l) (m' - l), ?_, .t _ _ (hx.toT.cut hlu hul (Nat.le_refl _) (by omega) _ (fun _ => rfl))⟩
              simp [Instr.sliceAt, Instr.slice, run_underlying ht, Result.andThen, hb, run_sizeOf hs, pure, Sem.run]
            · simp [hmu] at h
          · simp at h
      · simp [hc] at h
    · simp at h
  · rename_i elem ht
    obtain ⟨rfl, _⟩ := hx.toT.sc_eq
    split at h
    · rename_i size hs hl hu hm
      by_cases hc : mx.isSome = true ∧ hi.isSome = false
      · simp [hc] at h
      · rw [if_neg hc] at h
        simp at h
        subst h
        have hb := run_sliceBounds (P := P) (isSlice := true) (len := 0) (cap := 0) h1 h2 h3 hl hu (Nat.le_refl _) (Nat.le_refl _) (Nat.le_refl _) (fun m2 hm2 => by
          subst hm2
          refine ⟨by simpa [optNat] using hm, ?_⟩
          cases hi <;> simp at hc ⊢)
        refine ⟨_, ?_, hx⟩
        cases mx <;> simp [Instr.sliceAt, Instr.slice, run_underlying ht, Result.andThen, hb, run_sizeOf hs, pure, Sem.run]
    · simp at h
  · rename_i elem o e i len k clip ht
    split at h
    · rename_i size l u hs hl hu
      by_cases hc : l ≤ u ∧ u ≤ len ∧ k = size
      · rw [if_pos hc] at h
        obtain ⟨hlu, hul, rfl⟩ := hc
        obtain ⟨a, cap, rfl, hcap, hclip⟩ := ms_form hx
        split at h
        · simp at h
          subst h
          have hb := run_sliceBounds (P := P) (isSlice := true) (len := len) (cap := cap) h1 h2 h3 hl hu hlu hul hcap (fun m hm => by simp at hm)
          refine ⟨.slice (if cap = l then a else a.map (·.add (l * k))) (u - l) (cap - l), ?_, hx.msCut hlu hul (by omega) (Nat.le_refl _) _ ?_⟩
          · simp [Instr.sliceAt, Instr.slice, run_underlying ht, Result.andThen, hb, run_sizeOf hs, pure, Sem.run]
          · intro hcl
            simp at hcl
            rw [hclip hcl.1, hcl.2]
        · rename_i m
          split at h
          · rename_i m' hm
            by_cases hmu : m' = u ∧ hi.isSome = true
            · rw [if_pos hmu] at h
              simp at h
              subst h
              obtain ⟨rfl, hhi⟩ := hmu
              have hb := run_sliceBounds (P := P) (isSlice := true) (len := len) (cap := cap) h1 h2 h3 hl hu hlu hul hcap (fun m2 hm2 => by simp at hm2; subst hm2; exact ⟨hm, hhi⟩)
              refine ⟨.slice (if m' = l then a else a.map (·.add (l * k))) (m' - l) (m' - l), ?_, hx.msCut hlu hul (Nat.le_refl _) (by omega) _ (fun _ => rfl)⟩
              simp [Instr.sliceAt, Instr.slice, run_underlying ht, Result.andThen, hb, run_sizeOf hs, pure, Sem.run]
            · simp [hmu] at h
          · simp at h
      · simp [hc] at h
    · simp at h
  · simp at h

end Go.Abs

/- Literals of structs and arrays; comparisons. -/
namespace Go.Abs
open Go

variable {P : Program} {D : Dom} {β : Bet} {w : World}

theorem foldl_set_list (vs : List Value) : ∀ (n off : Nat) (cells : Array Value), off + n + vs.length ≤ cells.size →
    ((vs.zipIdx n).foldl (fun cs (x : Value × Nat) => cs.setIfInBounds (off + x.2) x.1) cells).size = cells.size ∧
    ∀ i : Nat, ((vs.zipIdx n).foldl (fun cs (x : Value × Nat) => cs.setIfInBounds (off + x.2) x.1) cells)[i]? = if off + n ≤ i ∧ i < off + n + vs.length then vs[i - (off + n)]? else cells[i]? := by
  induction vs with
  | nil => intro n off cells _; refine ⟨rfl, fun i => ?_⟩; rw [if_neg (by simp only [List.length_nil]; omega)]; rfl
  | cons v r ih =>
    intro n off cells hl
    simp only [List.length_cons] at hl
    obtain ⟨h1, h2⟩ := ih (n + 1) off (cells.setIfInBounds (off + n) v) (by simp; omega)
    simp only [List.zipIdx_cons, List.foldl_cons]
    refine ⟨by rw [h1]; simp, fun i => ?_⟩
    rw [h2 i]
    by_cases hi : off + (n + 1) ≤ i ∧ i < off + (n + 1) + r.length
    · rw [if_pos hi, if_pos (by simp only [List.length_cons]; omega)]
      have : i - (off + n) = (i - (off + (n + 1))) + 1 := by omega
      rw [this]; simp
    · rw [if_neg hi]
      by_cases hi2 : i = off + n
      · subst hi2
        rw [if_pos (by simp only [List.length_cons]; omega)]
        have : off + n < cells.size := by omega
        simp [this]
      · rw [if_neg (by simp only [List.length_cons]; omega)]
        simp [Array.getElem?_setIfInBounds, Ne.symm hi2]

theorem splice_length {cs vs : List AV} {off : Nat} (h : off + vs.length ≤ cs.length) : (splice cs off vs).length = cs.length := by
  simp [splice]; omega

theorem splice_get {cs vs : List AV} {off : Nat} (h : off + vs.length ≤ cs.length) (i : Nat) : (splice cs off vs)[i]? = if off ≤ i ∧ i < off + vs.length then vs[i - off]? else cs[i]? := by
  unfold splice
  by_cases h1 : i < off
  · rw [if_neg (by omega)]
    rw [List.append_assoc, List.getElem?_append_left (by simp; omega)]
    rw [List.getElem?_take, if_pos h1]
  · have hlen : (cs.take off).length = off := by simp; omega
    rw [List.append_assoc, List.getElem?_append_right (by omega), hlen]
    by_cases h2 : i < off + vs.length
    · rw [if_pos (by omega), List.getElem?_append_left (by omega)]
    · rw [if_neg (by omega), List.getElem?_append_right (by omega), List.getElem?_drop]
      congr 1; omega

/-- Parts of a literal, one by one. -/
def PartsRep (D : Dom) (β : Bet) (w : World) (ps : List (Nat × Value)) (qs : List (Nat × AV)) : Prop :=
  ps.length = qs.length ∧ ∀ (i : Nat) p q, ps[i]? = some p → qs[i]? = some q → p.1 = q.1 ∧ Rep D β w p.2 q.2

theorem PartsRep.cons {p : Nat × Value} {ps : List (Nat × Value)} {q : Nat × AV} {qs : List (Nat × AV)} (h : PartsRep D β w (p :: ps) (q :: qs)) : p.1 = q.1 ∧ Rep D β w p.2 q.2 ∧ PartsRep D β w ps qs := by
  have h0 := h.2 0 p q rfl rfl
  refine ⟨h0.1, h0.2, by simpa using h.1, fun i a b ha hb => h.2 (i + 1) a b (by simpa using ha) (by simpa using hb)⟩

theorem fill_rel {place : Nat → Option (Nat × Nat)} (qs : List (Nat × AV)) : ∀ (ps : List (Nat × Value)) (C : Array Value) (L L' : List AV), PartsRep D β w ps qs → C.size = L.length →
    (∀ (i : Nat) v x, C[i]? = some v → L[i]? = some x → Rep D β w v x) → fill place L qs = some L' →
    ∃ C', Instr.fill place C ps = some C' ∧ C'.size = L'.length ∧ ∀ (i : Nat) v x, C'[i]? = some v → L'[i]? = some x → Rep D β w v x := by
  induction qs with
  | nil =>
    intro ps C L L' hp hl hr hf
    cases ps with
    | nil => simp [fill] at hf; subst hf; exact ⟨C, rfl, hl, hr⟩
    | cons p r => simp [PartsRep] at hp
  | cons q qs ih =>
    intro ps C L L' hp hl hr hf
    cases ps with
    | nil => simp [PartsRep] at hp
    | cons p ps =>
      obtain ⟨h1, h2, h3⟩ := hp.cons
      obtain ⟨i, v⟩ := p
      obtain ⟨i', x⟩ := q
      simp only at h1 h2
      subst h1
      simp only [fill] at hf
      cases hpl : place i with
      | none => simp [hpl] at hf
      | some os =>
        obtain ⟨off, size⟩ := os
        simp only [hpl] at hf
        by_cases hc : x.cells.length = size ∧ 0 < size ∧ off + size ≤ L.length
        · rw [if_pos hc] at hf
          obtain ⟨hc1, hc2, hc3⟩ := hc
          have hcell := h2.cells (cells_ne_dead (by omega))
          have hsz : v.cells.size = size := by rw [hcell.1, hc1]
          have hfold : (v.cells.zipIdx.foldl (fun cs (x : Value × Nat) => cs.setIfInBounds (off + x.2) x.1) C) = ((v.cells.toList.zipIdx 0).foldl (fun cs (x : Value × Nat) => cs.setIfInBounds (off + x.2) x.1) C) := by
            rw [← Array.foldl_toList, Array.toList_zipIdx]
          obtain ⟨g1, g2⟩ := foldl_set_list v.cells.toList 0 off C (by simp [hsz]; omega)
          obtain ⟨C', e1, e2, e3⟩ := ih ps (v.cells.zipIdx.foldl (fun cs (x : Value × Nat) => cs.setIfInBounds (off + x.2) x.1) C) (splice L off x.cells) L' h3
            (by rw [hfold, g1, splice_length (by omega)]; exact hl)
            (fun j u y hu hy => by
              rw [hfold, g2 j] at hu
              rw [splice_get (by omega)] at hy
              by_cases hj : off ≤ j ∧ j < off + size
              · rw [if_pos (by simp [hsz]; omega)] at hu
                rw [if_pos (by omega)] at hy
                exact hcell.2 _ u y (by simpa using hu) hy
              · rw [if_neg (by simp [hsz]; omega)] at hu
                rw [if_neg (by omega)] at hy
                exact hr j u y hu hy) hf
          refine ⟨C', ?_, e2, e3⟩
          simp only [Instr.fill, hpl]
          rw [if_neg (by simp [hsz]; omega)]
          exact e1
        · simp [hc] at hf

theorem placesOf_run {fs : List Field} {l : List (Nat × Nat)} (h : placesOf P fs = some l) : (fs.mapM fun f => do pure (f.offset, ← Go.sizeOf f.type) : Sem (List (Nat × Nat))).run P w = .ok l w := by
  induction fs generalizing l with
  | nil => simp [placesOf] at h; subst h; simp [pure, Sem.run]
  | cons f r ih =>
    simp only [placesOf] at h
    cases hs : szOf P f.type with
    | none => simp [hs] at h
    | some n =>
      cases hp : placesOf P r with
      | none => simp [hs, hp] at h
      | some l' =>
        simp [hs, hp] at h
        subst h
        simp only [List.mapM_cons, Sem.run_bind, run_sizeOf hs, Result.andThen, Sem.run_pure, ih hp]

theorem aBuild_run {t : TypeId} {qs : List (Nat × AV)} {y : AV} {ps : Array (Nat × Value)} (h : aBuild P t qs = some y) (hp : PartsRep D β w ps.toList qs) :
    ∃ v, (Instr.build t ps).run P w = .ok v w ∧ Rep D β w v y := by
  unfold aBuild at h
  cases hz : zeroOf P t with
  | none => simp [hz] at h
  | some z =>
    simp only [hz] at h
    obtain ⟨zv, hok, rfl, hzr⟩ := zeroOf_val hz
    have hzrep : Rep D β w zv (.t (ofVal zv)) := .t _ _ (okVal_rep hok)
    have hzc := hzrep.cells (by simp)
    cases ht : typ P t with
    | none => simp [ht] at h
    | some d =>
      simp only [ht] at h
      split at h
      · rename_i fields hd
        simp at hd
        subst hd
        cases hpl : placesOf P fields.toList with
        | none => simp [hpl] at h
        | some places =>
          simp only [hpl] at h
          cases hf : fill (fun i => places[i]?) (AV.t (ofVal zv)).cells qs with
          | none => simp [hf] at h
          | some cs =>
            simp [hf] at h
            subst h
            obtain ⟨C', e1, e2, e3⟩ := fill_rel qs ps.toList zv.cells _ cs hp hzc.1 hzc.2 hf
            refine ⟨.agg C', ?_, Rep.mkAgg e2 e3⟩
            simp only [Instr.build, Sem.run_bind, hzr, Result.andThen, run_underlying ht, Array.mapM_eq_mapM_toList, Sem.run_map, placesOf_run hpl]
            simp [e1]
      · rename_i len elem hd
        simp at hd
        subst hd
        cases hs : szOf P elem with
        | none => simp [hs] at h
        | some size =>
          simp only [hs] at h
          cases hf : fill (fun i => some (i * size, size)) (AV.t (ofVal zv)).cells qs with
          | none => simp [hf] at h
          | some cs =>
            simp [hf] at h
            subst h
            obtain ⟨C', e1, e2, e3⟩ := fill_rel qs ps.toList zv.cells _ cs hp hzc.1 hzc.2 hf
            refine ⟨.agg C', ?_, Rep.mkAgg e2 e3⟩
            simp only [Instr.build, Sem.run_bind, hzr, Result.andThen, run_underlying ht, run_sizeOf hs, e1]
            rfl
      · simp at h

/-! ### Comparisons -/

theorem run_partT {t : TypeId} {cs : Array Value} {xs : List T} {off : Nat} {y : T} (h : takeVarT P t (xs.drop off) = some y) (hl : cs.size = xs.length)
    (hr : ∀ (i : Nat) v x, cs[i]? = some v → xs[i]? = some x → RepT D w v x) : ∃ v, (part t cs off).run P w = .ok v w ∧ RepT D w v y := by
  have h' := takeVarT_map h
  rw [List.map_drop] at h'
  obtain ⟨v, h1, h2⟩ := run_part (P := P) (D := D) (β := fun _ _ => none) (w := w) h' (by simpa using hl) (fun i v x hv hx => by
    simp only [List.getElem?_map, Option.map_eq_some_iff] at hx
    obtain ⟨u, hu, rfl⟩ := hx
    exact .t _ _ (hr i v u hv hu))
  exact ⟨v, h1, h2.toT⟩

theorem cellsOf_eq {e : TypeId} {n : Nat} (h : szOf P e = some n) : P.cellsOf e = n := by
  obtain ⟨i, hi, rfl⟩ := szOf_info h
  simp [Program.cellsOf, hi]

theorem eqIn_run : ∀ (d : Nat) (t : TypeId) (x y : T) (b : Bool) (vx vy : Value), eqIn P d t x y = some b → RepT D w vx x → RepT D w vy y → ∀ d', d ≤ d' → (Op.equalIn d' t vx vy).run P w = .ok b w := by
  intro d
  induction d with
  | zero => intro t x y b vx vy h; simp [eqIn] at h
  | succ d ih =>
    intro t x y b vx vy h hx hy d' hd
    obtain ⟨d', rfl⟩ : ∃ n, d' = n + 1 := ⟨d' - 1, by omega⟩
    have hd' : d ≤ d' := by omega
    simp only [eqIn] at h
    split at h
    · rename_i a b' ht
      obtain ⟨rfl, _⟩ := hx.sc_eq
      obtain ⟨rfl, _⟩ := hy.sc_eq
      simp at h
      subst h
      simp [Op.equalIn, run_underlying ht, Result.andThen, pure, Sem.run]
    · rename_i k a k' b' ht
      obtain ⟨rfl, _⟩ := hx.sc_eq
      obtain ⟨rfl, _⟩ := hy.sc_eq
      by_cases hk : k = k'
      · simp [hk] at h
        subst h
        simp [Op.equalIn, run_underlying ht, Result.andThen, pure, Sem.run, hk]
      · simp [hk] at h
    · rename_i a b' ht
      obtain ⟨rfl, _⟩ := hx.sc_eq
      obtain ⟨rfl, _⟩ := hy.sc_eq
      simp at h
      subst h
      simp [Op.equalIn, run_underlying ht, Result.andThen, pure, Sem.run]
    · rename_i fs xs ys ht
      by_cases hst : P.stoodInHeld t = true
      · simp [hst] at h
      · rw [if_neg hst] at h
        have hst' : P.stoodInHeld t = false := by simpa using hst
        cases hx with
        | agg cx _ hlx hrx =>
          cases hy with
          | agg cy _ hly hry =>
            have hfo : P.fieldsOf t = fs := by simp only [typ] at ht; simp [Program.fieldsOf, ht]
            rw [run_equalIn_struct w d' t cx cy (by rw [hfo]; exact ht) hst', hfo]
            generalize fs.toList = fl at h
            clear hfo ht
            induction fl generalizing b with
            | nil => simp [eqFields] at h; subst h; simp [Op.eqFields, pure, Sem.run]
            | cons f r ihf =>
              simp only [eqFields] at h
              by_cases hn : f.name = "_"
              · simp [hn] at h
              · rw [if_neg hn] at h
                split at h
                · rename_i px py hpx hpy
                  split at h
                  · rename_i a b2 ha hb2
                    simp at h
                    subst h
                    obtain ⟨v1, r1, q1⟩ := run_partT (P := P) hpx hlx hrx
                    obtain ⟨v2, r2, q2⟩ := run_partT (P := P) hpy hly hry
                    have he := ih _ _ _ _ _ _ ha q1 q2 d' hd'
                    simp only [Op.eqFields, ne_eq, hn, not_false_eq_true, if_true, Sem.run_bind, r1, r2, Result.andThen, he]
                    cases a with
                    | false => simp [pure, Sem.run]
                    | true => simpa using ihf b2 hb2
                  · simp at h
                · simp at h
    · rename_i len elem xs ys ht
      cases hs : szOf P elem with
      | none => simp [hs] at h
      | some size =>
        simp only [hs] at h
        cases hx with
        | agg cx _ hlx hrx =>
          cases hy with
          | agg cy _ hly hry =>
            obtain ⟨i, hi, hsz⟩ := szOf_info hs
            rw [run_equalIn_array w d' cx cy ht hi, cellsOf_eq hs]
            generalize List.range len = is at h
            clear ht
            induction is generalizing b with
            | nil => simp [eqElems] at h; subst h; simp [Op.eqItems, pure, Sem.run]
            | cons j r ihf =>
              simp only [eqElems] at h
              split at h
              · rename_i px py hpx hpy
                split at h
                · rename_i a b2 ha hb2
                  simp at h
                  subst h
                  obtain ⟨v1, r1, q1⟩ := run_partT (P := P) hpx hlx hrx
                  obtain ⟨v2, r2, q2⟩ := run_partT (P := P) hpy hly hry
                  have he := ih _ _ _ _ _ _ ha q1 q2 d' hd'
                  simp only [Op.eqItems, Sem.run_bind, r1, r2, Result.andThen, he]
                  cases a with
                  | false => simp [pure, Sem.run]
                  | true => simpa using ihf b2 hb2
                · simp at h
              · simp at h
    · simp at h

end Go.Abs

/- What new blocks and writes do to the invariant. -/
namespace Go.Abs
open Go

variable {P : Program} {Z : Base} {D D' D'' : Dom} {β β' β'' : Bet} {w w' w'' : World} {S : Nat → Prop}

theorem heap_alloc_old {obj : Obj} {b : Nat} (h : b < w.heap.size) : (w.alloc obj).heap[b]? = w.heap[b]? := by
  show (w.heap.push obj)[b]? = w.heap[b]?
  rw [Array.getElem?_push, if_neg (by omega)]

theorem heap_alloc_new (obj : Obj) : (w.alloc obj).heap[w.heap.size]? = some obj := by
  show (w.heap.push obj)[w.heap.size]? = some obj
  simp

theorem lt_of_heap {b : Nat} {o : Obj} (h : w.heap[b]? = some o) : b < w.heap.size := (Array.getElem?_eq_some_iff.1 h).1

theorem rowSize_alloc {obj : Obj} {b n : Nat} (h : rowSize w b = some n) : rowSize (w.alloc obj) b = some n := by
  unfold rowSize at *
  cases hb : w.heap[b]? with
  | none => simp [hb] at h
  | some x => rw [heap_alloc_old (lt_of_heap hb), hb]; simpa [hb] using h

theorem ext_alloc (obj : Obj) (hd : ∀ b, D b → b < w.heap.size) : Ext D β w D β (w.alloc obj) :=
  ⟨fun _ h => h, fun b h => heap_alloc_old (hd b h), fun _ _ _ h => h, fun _ _ h => rowSize_alloc h, fun b ds h => (heap_alloc_old (lt_of_heap h)).trans h, fun b L h => ⟨L, (heap_alloc_old (lt_of_heap h)).trans h⟩, by simp⟩

theorem GInv.alloc (hg : GInv Z D β w) (obj : Obj) (hfr : ∀ c ty fr, obj = .cells c ty fr → fr = (0, 0)) : GInv Z D β (w.alloc obj) where
  size0 := by have := hg.size0; simp; omega
  old b hb := (heap_alloc_old (Nat.lt_of_lt_of_le hb hg.size0)).trans (hg.old b hb)
  os := hg.os
  out := hg.out
  dlt b hb := by have := hg.dlt b hb; simp; omega
  dn := hg.dn
  blt o e b k hb := by have := hg.blt o e b k hb; simp; omega
  inj := hg.inj
  nd b ds hb hN := by
    by_cases h : b < w.heap.size
    · rw [heap_alloc_old h] at hb; exact hg.nd b ds hb hN
    · exact ⟨fun hd => h (hg.dlt b hd), fun o e k hk => h (hg.blt o e b k hk).2⟩

/-- D with one block more. -/
def dAdd (D : Dom) (b : Nat) : Dom := fun x => D x ∨ x = b

/-- β with one epoch of one object more. -/
def bAdd (β : Bet) (o e b k : Nat) : Bet := fun o' e' => if o' = o ∧ e' = e then some (b, k) else β o' e'

theorem bAdd_same (β : Bet) (o e b k : Nat) : bAdd β o e b k o e = some (b, k) := by simp [bAdd]
theorem bAdd_other {β : Bet} {o e b k o' e' : Nat} (h : o' ≠ o) : bAdd β o e b k o' e' = β o' e' := by simp [bAdd, h]
theorem bAdd_cases {β : Bet} {o e b k o' e' : Nat} {y : Nat × Nat} (h : bAdd β o e b k o' e' = some y) : (o' = o ∧ e' = e ∧ y = (b, k)) ∨ (β o' e' = some y ∧ ¬ (o' = o ∧ e' = e)) := by
  unfold bAdd at h
  split at h
  · rename_i hc; exact .inl ⟨hc.1, hc.2, (Option.some.inj h).symm⟩
  · rename_i hc; exact .inr ⟨h, hc⟩

theorem GInv.dAdd (hg : GInv Z D β w) {b : Nat} (hb : b < w.heap.size) (hN : Z.N ≤ b) (hnd : ∀ ds, w.heap[b]? ≠ some (.deferred ds)) : GInv Z (dAdd D b) β w :=
  { hg with nd := fun x ds hx hn => ⟨fun hd => hd.elim (hg.nd x ds hx hn).1 (fun e => hnd ds (e ▸ hx)), (hg.nd x ds hx hn).2⟩, dlt := fun x hx => hx.elim (hg.dlt x) (fun e => e ▸ hb), dn := fun x hx hl => hx.elim (fun h => hg.dn x h hl) (fun e => by omega) }

theorem GInv.bAdd (hg : GInv Z D β w) {o e b k : Nat} (h0 : Z.N ≤ b) (h1 : b < w.heap.size) (hi : ∀ o' e' k', β o' e' = some (b, k') → o' = o) (hnd : ∀ ds, w.heap[b]? ≠ some (.deferred ds)) : GInv Z D (bAdd β o e b k) w :=
  { hg with
    nd := fun x ds hx hn => ⟨(hg.nd x ds hx hn).1, fun o' e' k' h => by
      rcases bAdd_cases h with ⟨_, _, h⟩ | ⟨h, _⟩
      · cases h; exact hnd ds hx
      · exact (hg.nd x ds hx hn).2 _ _ _ h⟩
    blt := fun o' e' b' k' h => by
      rcases bAdd_cases h with ⟨_, _, h⟩ | ⟨h, _⟩
      · cases h; exact ⟨h0, h1⟩
      · exact hg.blt _ _ _ _ h
    inj := fun o1 e1 b1 k1 o2 e2 k2 h h' => by
      rcases bAdd_cases h with ⟨q1, _, p1⟩ | ⟨p1, _⟩ <;> rcases bAdd_cases h' with ⟨q2, _, p2⟩ | ⟨p2, _⟩
      · rw [q1, q2]
      · cases p1; rw [q1]; exact (hi _ _ _ p2).symm
      · cases p2; rw [q2]; exact hi _ _ _ p1
      · exact hg.inj _ _ _ _ _ _ _ p1 p2 }

/-- A new block that is a tree's from now on. -/
theorem frm_alloc_D (hg : GInv Z D β w) (obj : Obj) : Frm S D β w (dAdd D w.heap.size) β (w.alloc obj) where
  ext := { ext_alloc obj hg.dlt with sub := fun b h => .inl h }
  fr o e b k _ hb := by
    have := (hg.blt o e b k hb).2
    exact ⟨heap_alloc_old this, fun h => h.elim id (fun e => by omega)⟩
  bt _ _ _ := rfl

theorem frm_alloc (hg : GInv Z D β w) (obj : Obj) : Frm S D β w D β (w.alloc obj) where
  ext := ext_alloc obj hg.dlt
  fr o e b k _ hb := ⟨heap_alloc_old (hg.blt o e b k hb).2, id⟩
  bt _ _ _ := rfl

theorem Frm.refl (D : Dom) (β : Bet) (w : World) : Frm S D β w D β w := ⟨.refl D β w, fun _ _ _ _ _ _ => ⟨rfl, id⟩, fun _ _ _ => rfl⟩

theorem Frm.trans (h : Frm S D β w D' β' w') (h' : Frm S D' β' w' D'' β'' w'') : Frm S D β w D'' β'' w'' where
  ext := h.ext.trans h'.ext
  fr o e b k ho hb := by
    obtain ⟨h1, h2⟩ := h.fr o e b k ho hb
    obtain ⟨h3, h4⟩ := h'.fr o e b k ho ((h.bt o e ho).trans hb)
    exact ⟨h3.trans h1, fun x => h2 (h4 x)⟩
  bt o e ho := (h'.bt o e ho).trans (h.bt o e ho)

theorem Frm.mono {S' : Nat → Prop} (h : Frm S D β w D' β' w') (hs : ∀ o, S o → S' o) : Frm S' D β w D' β' w' :=
  ⟨h.ext, fun o e b k ho hb => h.fr o e b k (fun x => ho (hs o x)) hb, fun o e ho => h.bt o e (fun x => ho (hs o x))⟩

/-- One more epoch of an object of S. -/
theorem frm_bAdd {o e b k : Nat} (ho : S o) (hn : β o e = none) : Frm S D β w D (bAdd β o e b k) w where
  ext := ⟨fun _ h => h, fun _ _ => rfl, fun o' e' x h => by
      unfold bAdd
      rw [if_neg (by rintro ⟨rfl, rfl⟩; rw [hn] at h; cases h)]
      exact h, fun _ _ h => h, fun _ _ h => h, fun _ L h => ⟨L, h⟩, Nat.le_refl _⟩
  fr _ _ _ _ _ _ := ⟨rfl, id⟩
  bt o' e' ho' := by
    unfold bAdd
    rw [if_neg]
    rintro ⟨rfl, rfl⟩; exact ho' ho

theorem frm_drew (hg : GInv Z D β w) (n : Nat) : Frm S D β w D β { w with drawn := n } ∧ GInv Z D β { w with drawn := n } :=
  ⟨⟨⟨fun _ h => h, fun _ _ => rfl, fun _ _ _ h => h, fun _ _ h => h, fun _ _ h => h, fun _ L h => ⟨L, h⟩, Nat.le_refl _⟩, fun _ _ _ _ _ _ => ⟨rfl, id⟩, fun _ _ _ => rfl⟩,
   ⟨hg.size0, hg.old, hg.os, hg.out, hg.dlt, hg.dn, hg.blt, hg.inj, hg.nd⟩⟩

/-- Cells written in one block of an object of S. -/
theorem frm_wrote (hg : GInv Z D β w) {o e b k off : Nat} {vs : List Value} {c : Array Value} {ty : TypeId} (ho : S o) (hb : β o e = some (b, k)) (hD : ¬ D b)
    (hc : w.heap[b]? = some (.cells c ty (0, 0))) (hl : off + vs.length ≤ c.size) : Frm S D β w D β (wrote w b off vs) ∧ GInv Z D β (wrote w b off vs) := by
  obtain ⟨e1, e2, e3, e4, c', e5, e6, e7⟩ := wrote_facts vs w b off c ty (0, 0) hc hl
  refine ⟨⟨⟨fun _ h => h, fun x hx => e4 x (fun h => hD (h ▸ hx)), fun _ _ _ h => h, fun x n hn => ?_, fun x ds hx => ?_, fun x L hx => ⟨L, ?_⟩, by rw [e1]; exact Nat.le_refl _⟩, fun o' e' b' k' ho' hb' => ?_, fun _ _ _ => rfl⟩, ?_⟩
  · by_cases hx : x = b
    · subst hx
      simp only [rowSize, hc] at hn
      simp only [rowSize, e5, e6]
      exact hn
    · simp only [rowSize, e4 x hx]; exact hn
  · rw [e4 x (fun h => by subst h; rw [hc] at hx; cases hx)]; exact hx
  · rw [e4 x (fun h => by subst h; rw [hc] at hx; cases hx)]; exact hx
  · refine ⟨e4 b' (fun h => ?_), id⟩
    subst h
    exact ho' (hg.inj _ _ _ _ _ _ _ hb' hb ▸ ho)
  · have hN := (hg.blt o e b k hb).1
    exact ⟨by rw [e1]; exact hg.size0, fun x hx => (e4 x (by omega)).trans (hg.old x hx), e2.trans hg.os, e3.trans hg.out,
      fun x hx => by rw [e1]; exact hg.dlt x hx, hg.dn, fun o' e' b' k' h => by rw [e1]; exact hg.blt o' e' b' k' h, hg.inj,
      fun x ds hx hn => by
        by_cases h : x = b
        · subst h; rw [e5] at hx; cases hx
        · rw [e4 x h] at hx; exact hg.nd x ds hx hn⟩

/-- A map or a loop's record put anew. -/
theorem frm_putObj (hg : GInv Z D β w) {o e b k : Nat} {x y : Obj} (ho : S o) (hb : β o e = some (b, k)) (hD : ¬ D b) (hx : w.heap[b]? = some x)
    (nx : ∀ c ty fr, x ≠ .cells c ty fr) (nd : ∀ ds, x ≠ .deferred ds) (ny : ∀ c ty fr, y ≠ .cells c ty fr) (yd : ∀ ds, y ≠ .deferred ds) (nl : ∀ L, x = .loop L → ∃ L', y = .loop L') : Frm S D β w D β (w.putObj b y) ∧ GInv Z D β (w.putObj b y) := by
  have hlt := lt_of_heap hx
  have hother : ∀ x', x' ≠ b → (w.putObj b y).heap[x']? = w.heap[x']? := fun x' h => World.putObj_heap_other h
  have hsame : (w.putObj b y).heap[b]? = some y := World.putObj_heap_same hlt
  have hsz : (w.putObj b y).heap.size = w.heap.size := by simp [World.putObj]
  refine ⟨⟨⟨fun _ h => h, fun x' hx' => hother x' (fun h => hD (h ▸ hx')), fun _ _ _ h => h, fun x' n hn => ?_, fun x' ds hx' => ?_, fun x' L hx' => ?_, by rw [hsz]; exact Nat.le_refl _⟩, fun o' e' b' k' ho' hb' => ?_, fun _ _ _ => rfl⟩, ?_⟩
  · by_cases h : x' = b
    · subst h
      simp only [rowSize, hx] at hn
      cases x with
      | cells c ty fr => exact absurd rfl (nx c ty fr)
      | _ => simp at hn
    · simp only [rowSize, hother x' h]; exact hn
  · rw [hother x' (fun h => by subst h; rw [hx] at hx'; cases hx'; exact nd ds rfl)]; exact hx'
  · by_cases h : x' = b
    · subst h
      rw [hx] at hx'
      cases hx'
      obtain ⟨L', hL'⟩ := nl L rfl
      exact ⟨L', by rw [hsame, hL']⟩
    · exact ⟨L, (hother x' h).trans hx'⟩
  · refine ⟨hother b' (fun h => ?_), id⟩
    subst h
    exact ho' (hg.inj _ _ _ _ _ _ _ hb' hb ▸ ho)
  · have hN := (hg.blt o e b k hb).1
    exact ⟨by rw [hsz]; exact hg.size0, fun x' hx' => (hother x' (by omega)).trans (hg.old x' hx'), hg.os, hg.out,
      fun x' hx' => by rw [hsz]; exact hg.dlt x' hx', hg.dn, fun o' e' b' k' h => by rw [hsz]; exact hg.blt o' e' b' k' h, hg.inj,
      fun x' ds hx' hn => by
        by_cases h : x' = b
        · subst h; rw [hsame] at hx'; cases hx'; exact absurd rfl (yd _)
        · rw [hother x' h] at hx'; exact hg.nd x' ds hx' hn⟩

end Go.Abs

/- Variables and rows: new ones, stores. -/
namespace Go.Abs
open Go

variable {P : Program} {Z : Base} {D : Dom} {β : Bet} {w : World} {h h' : Heap}

/-- What an operation has come to: a value that is stood for by v, in a world for the heap h'; the objects outside S are as they were. -/
def Done [Cp] (Z : Base) (D : Dom) (β : Bet) (w : World) (h' : Heap) (S : Nat → Prop) (v : AV) (r : Result Next) : Prop :=
  ∃ nx w' D' β', r = .ok nx w' ∧ (match nx with | .value v' => Rep D' β' w' v' v | .skip => v = .t (.sc undef) | _ => False) ∧ Frm S D β w D' β' w' ∧ GInv Z D' β' w' ∧
    (∀ (o : Nat) x, S o → h'[o]? = some x → ObjOk D' β' w' o x) ∧ (∀ o e y, β' o e = some y → (∃ e' y', β o e' = some y') ∨ o < h'.length)

/-- The objects that an operation may change: those that it touches, and the new ones. -/
def stepS (tch : List Nat) (h h' : Heap) : Nat → Prop := fun o => o ∈ tch ∨ (h.length ≤ o ∧ o < h'.length)

theorem Done.pure [Cp] {S : Nat → Prop} {v' : Value} {v : AV} (hg : GInv Z D β w) (hr : Rep D β w v' v) (ho : ∀ (o : Nat) x, S o → h[o]? = some x → ObjOk D β w o x) :
    Done Z D β w h S v (.ok (.value v') w) :=
  ⟨_, w, D, β, rfl, hr, .refl D β w, hg, ho, fun o e y hy => .inl ⟨e, y, hy⟩⟩

theorem storableAll_get {cs : List AV} (h : storableAll cs = true) {j : Nat} {t : AV} (ht : cs[j]? = some t) : storable t = true := by
  induction cs generalizing j with
  | nil => simp at ht
  | cons c r ih =>
    simp [storableAll] at h
    cases j with
    | zero => simp at ht; subst ht; exact h.1
    | succ j => exact ih h.2 (by simpa using ht)

theorem storable_ok {c : Value} {t : AV} (hs : storable t = true) (hr : Rep D β w c t) : okCell c = true := by
  cases hr with
  | t _ x hx =>
    cases hx <;> first | rfl | (simp [storable] at hs)
    rename_i hv
    exact hs
  | agg => simp [storable] at hs
  | tup => simp [storable] at hs
  | dead => simp [storable] at hs
  | _ => rfl

/-- Flat cells that stand for a list of elements. -/
def FlatRep (D : Dom) (β : Bet) (w : World) (k : Nat) (c : Array Value) (elems : List AV) : Prop :=
  elems.length * k ≤ c.size ∧ (∀ (i : Nat) x, elems[i]? = some x → x.cells.length = k) ∧
  ∀ (i : Nat) x (j : Nat) t, elems[i]? = some x → x.cells[j]? = some t → ∃ v, c[i * k + j]? = some v ∧ okCell v = true ∧ Rep D β w v t

theorem FlatRep.mono {D' : Dom} {β' : Bet} {w' : World} {k : Nat} {c : Array Value} {elems : List AV} (hx : Ext D β w D' β' w') (h : FlatRep D β w k c elems) : FlatRep D' β' w' k c elems :=
  ⟨h.1, h.2.1, fun i x j t hi ht => let ⟨v, h1, h2, h3⟩ := h.2.2 i x j t hi ht; ⟨v, h1, h2, h3.mono hx⟩⟩

theorem FlatRep.one {v : Value} {x : AV} (hr : Rep D β w v x) (hs : storableAll x.cells = true) (hx : x ≠ .dead) : FlatRep D β w x.cells.length v.cells [x] := by
  have hc := hr.cells hx
  refine ⟨by simp [hc.1], fun i y hy => ?_, fun i y j t hy ht => ?_⟩
  · cases i with
    | zero => simp at hy; subst hy; rfl
    | succ i => simp at hy
  · cases i with
    | zero =>
      simp at hy
      subst hy
      have hj : j < v.cells.size := by rw [hc.1]; exact (List.getElem?_eq_some_iff.1 ht).1
      have hcj : v.cells[j]? = some v.cells[j] := by simp [hj]
      have := hc.2 j _ t hcj ht
      exact ⟨_, by simp only [Nat.zero_mul, Nat.zero_add]; exact hcj, storable_ok (storableAll_get hs ht) this, this⟩
    | succ i => simp at hy

/-- A new row, its block new too. -/
theorem row_new [Cp] {k : Nat} {elems : List AV} {c : Array Value} {ty : TypeId} {n : Nat} (hg : GInv Z D β w) (hf : FlatRep D β w k c elems) (hn : ∀ e, β n e = none) :
    let w' := w.alloc (.cells c ty (0, 0))
    let β' := bAdd β n elems.length w.heap.size k
    Frm (fun o => o = n) D β w D β' w' ∧ GInv Z D β' w' ∧ ObjOk D β' w' n (.row k elems 0) := by
  intro w' β'
  have f1 : Frm (fun o => o = n) D β w D β w' := frm_alloc hg _
  have f2 : Frm (fun o => o = n) D β w' D β' w' := frm_bAdd rfl (hn _)
  have g1 : GInv Z D β w' := hg.alloc _ (fun _ _ _ h => by cases h; rfl)
  have g2 : GInv Z D β' w' := g1.bAdd hg.size0 (by simp [w']) (fun o' e' k' hb => by have := (hg.blt _ _ _ _ hb).2; omega) (fun ds hx => by rw [heap_alloc_new] at hx; cases hx)
  have ff := f1.trans f2
  refine ⟨ff, g2, hf.2.1, fun e b k' hb => ?_⟩
  rcases bAdd_cases hb with ⟨_, rfl, hy⟩ | ⟨hb, _⟩
  · cases hy
    refine ⟨fun hD => by have := hg.dlt _ hD; omega, rfl, Nat.le_refl _, fun _ => ⟨c, ty, heap_alloc_new _, hf.1, fun i x j t _ hx ht => ?_⟩⟩
    obtain ⟨v, h1, h2, h3⟩ := hf.2.2 i x j t hx ht
    exact ⟨v, h1, h2, h3.mono ff.ext⟩
  · rw [hn] at hb; cases hb

theorem dom_bAdd {n e0 b k : Nat} (hl : n < h'.length) : ∀ o e y, bAdd β n e0 b k o e = some y → (∃ e' y', β o e' = some y') ∨ o < h'.length := by
  intro o e y hy
  rcases bAdd_cases hy with ⟨rfl, _, _⟩ | ⟨hy, _⟩
  · exact .inr hl
  · exact .inl ⟨e, y, hy⟩

theorem get_append_new (h : Heap) (x : AObj) : (h ++ [x])[h.length]? = some x := by simp

theorem box_run (w : World) (ty : TypeId) (v : Value) : (Instr.box ty v).run P w = .ok (.pointer (some ⟨w.heap.size, 0, none⟩)) (w.alloc (.cells v.cells ty (0, 0))) := rfl

/-- A variable in a new object. -/
theorem newVar_done [Cp] {ty : TypeId} {v : Value} {x : AV} (hg : GInv Z D β w) (hr : Rep D β w v x) (hs : storableAll x.cells = true) (hx : x ≠ .dead) (hn : ∀ e, β h.length e = none) :
    Done Z D β w (h ++ [.row x.cells.length [x] 0]) (stepS [] h (h ++ [.row x.cells.length [x] 0])) (.ref h.length 1 0 0)
      (.ok (.value (.pointer (some ⟨w.heap.size, 0, none⟩))) (w.alloc (.cells v.cells ty (0, 0)))) := by
  obtain ⟨f, g, ob⟩ := row_new (ty := ty) hg (FlatRep.one hr hs hx) hn
  refine ⟨_, _, D, _, rfl, ?_, f.mono (fun o ho => by subst ho; exact .inr ⟨Nat.le_refl _, by simp⟩), g, fun o y hy he => ?_, dom_bAdd (by simp)⟩
  · have := Rep.ref (D := D) (w := w.alloc (.cells v.cells ty (0, 0))) h.length 1 0 0 w.heap.size x.cells.length (bAdd_same β h.length [x].length w.heap.size x.cells.length)
    simpa using this
  · rcases hy with hy | ⟨h1, h2⟩
    · simp at hy
    · have e : o = h.length := by simp at h2; omega
      subst e
      rw [get_append_new] at he
      cases he
      exact ob

/-- A variable that is never written: a tree. -/
theorem boxT_done [Cp] {ty : TypeId} {v : Value} {x : T} (hg : GInv Z D β w) (hr : RepT D w v x) (hs : storableAll (AV.t x).cells = true) :
    Done Z D β w h (stepS [] h h) (.t (.ip x.cells)) (.ok (.value (.pointer (some ⟨w.heap.size, 0, none⟩))) (w.alloc (.cells v.cells ty (0, 0)))) := by
  have hf := FlatRep.one (β := β) (.t _ _ hr) hs (by simp)
  have f : Frm (stepS [] h h) D β w (dAdd D w.heap.size) β (w.alloc (.cells v.cells ty (0, 0))) := frm_alloc_D hg _
  have hc := hr.cells
  refine ⟨_, _, dAdd D w.heap.size, β, rfl, .t _ _ ?_, f, (hg.alloc _ (fun _ _ _ h => by cases h; rfl)).dAdd (by simp) hg.size0 (fun ds hx => by rw [heap_alloc_new] at hx; cases hx), fun o y hy => ?_, fun o e y hy => .inl ⟨e, y, hy⟩⟩
  · refine .ip _ 0 _ (.inr rfl) (fun j => (v.cells[j]?).getD default) (fun j hj => ?_) (fun j t ht => ?_)
    · have hj' : j < v.cells.size := by rw [hc.1]; exact hj
      have hcj : v.cells[j]? = some v.cells[j] := by simp [hj']
      have ht : x.cells[j]? = some x.cells[j] := by simp [hj]
      have hok : okCell v.cells[j] = true := storable_ok (D := D) (β := β) (w := w) (storableAll_get hs (j := j) (by rw [tcells]; simp [ht])) (.t _ _ (hc.2 j _ _ hcj ht))
      simp only [hcj, Option.getD_some]
      refine ⟨?_, hok⟩
      have e := heap_alloc_new (w := w) (.cells v.cells ty (0, 0))
      simp only [World.cell?, e]
      simp
    · have hj : j < x.cells.length := (List.getElem?_eq_some_iff.1 ht).1
      have hj' : j < v.cells.size := by rw [hc.1]; exact hj
      have hcj : v.cells[j]? = some v.cells[j] := by simp [hj']
      simp only [hcj, Option.getD_some]
      exact (hc.2 j _ t hcj ht).mono f.ext.sub f.ext.same
  · rcases hy with hy | ⟨h1, h2⟩
    · simp at hy
    · omega

/-- A store into a variable or an element. -/
theorem store_done [Cp] {t : TypeId} {a x : AV} {va vx : Value} (hg : GInv Z D β w) (hst : aStore P t a x h = some h') (ha : Rep D β w va a) (hx : Rep D β w vx x)
    (hobj : ∀ (o : Nat) y, o ∈ objsOf a → h[o]? = some y → ObjOk D β w o y) :
    Done Z D β w h' (stepS (objsOf a) h h') (.t (.sc undef)) (((do Instr.storeAt t va vx; pure .skip : Sem Next)).run P w) ∧ (∀ o : Nat, ¬ stepS (objsOf a) h h' o → h'[o]? = h[o]?) ∧ h'.length = h.length := by
  unfold aStore at hst
  split at hst
  · rename_i o e i off size hs
    split at hst
    · rename_i k elems mr ho
      by_cases hc : e = elems.length ∧ x.cells.length = size ∧ mr ≤ e
      · rw [if_pos hc] at hst
        obtain ⟨he, hxl, hm⟩ := hc
        split at hst
        · rename_i old hold
          by_cases hc2 : off + size ≤ k ∧ 0 < size ∧ storableAll x.cells = true
          · rw [if_pos hc2] at hst
            obtain ⟨hoff, hpos, hsto⟩ := hc2
            simp at hst
            subst hst
            have hok := hobj o _ (by simp [objsOf]) ho
            have holt : o < h.length := (List.getElem?_eq_some_iff.1 ho).1
            cases ha with
            | ref _ _ _ _ b k' hb =>
              obtain ⟨hD, rfl, hel, hcc⟩ := hok.2 e b k' hb
              obtain ⟨c, ty, h1, h2, h3⟩ := hcc hm
              have hcx := hx.cells (cells_ne_dead (by omega))
              have hilt : i < elems.length := (List.getElem?_eq_some_iff.1 hold).1
              have hik : (i + 1) * k' ≤ elems.length * k' := Nat.mul_le_mul_right _ hilt
              have hik2 : (i + 1) * k' = i * k' + k' := Nat.succ_mul i k'
              have hvsz : vx.cells.toList.length = size := by simp [hcx.1, hxl]
              have hbound : i * k' + off + vx.cells.toList.length ≤ c.size := by rw [hvsz]; subst he; omega
              have hokc : ∀ v ∈ vx.cells.toList, okCell v = true := by
                intro v hv
                obtain ⟨j, hj, rfl⟩ := List.getElem_of_mem hv
                have hj' : j < x.cells.length := by rw [← hcx.1]; simpa using hj
                exact storable_ok (storableAll_get hsto (j := j) (t := x.cells[j]) (by simp [hj'])) (hcx.2 j _ x.cells[j] (by simp at hj; simp [hj]) (by simp [hj']))
              have hrun : (do Instr.storeAt t (.pointer (some ⟨b, i * k' + off, none⟩)) vx; pure Next.skip : Sem Next).run P w = .ok .skip (wrote w b (i * k' + off) vx.cells.toList) := by
                have hsz : ¬ (vx.cells.size ≠ size) := by simpa using hvsz
                simp only [Instr.storeAt, storeVar, Instr.sureAddr, Sem.run_bind, Sem.run_pure, Result.andThen, run_sizeOf hs]
                rw [if_neg hsz]
                have := run_storeCells (P := P) vx.cells.toList w b (i * k' + off) 0 c ty h1 (by simpa using hbound) hokc
                simp only [Nat.add_zero] at this
                simp [Result.andThen, this]
              obtain ⟨f, g⟩ := frm_wrote (S := stepS (objsOf (.ref o e i off)) h (h.set o (.row k' (elems.set i (pack old.isAgg (splice old.cells off x.cells))) e))) hg (off := i * k' + off) (vs := vx.cells.toList) (.inl (by simp [objsOf])) hb hD h1 hbound
              obtain ⟨e1, e2, e3, e4, c', e5, e6, e7⟩ := wrote_facts vx.cells.toList w b (i * k' + off) c ty (0, 0) h1 hbound
              have hocl : old.cells.length = k' := hok.1 i old hold
              have hpk : ∀ ag : Bool, (pack ag (splice old.cells off x.cells)).cells = splice old.cells off x.cells ∨ (ag = false ∧ ∃ q, splice old.cells off x.cells = [q]) := by
                intro ag
                unfold pack
                split
                · rename_i q hq; exact .inr ⟨rfl, q, hq⟩
                · exact .inl (mkAgg_cells _)
              have hspl : (splice old.cells off x.cells).length = k' := by rw [splice_length (by omega)]; exact hocl
              -- the new element's cells
              have hnew : (pack old.isAgg (splice old.cells off x.cells)).cells = splice old.cells off x.cells := by
                rcases hpk old.isAgg with hq | ⟨hag, q, hq⟩
                · exact hq
                · -- one cell
                  rw [hag, hq]
                  have hk1 : k' = 1 := by rw [← hspl, hq]; rfl
                  have hoff0 : off = 0 ∧ size = 1 := by omega
                  have hsx : splice old.cells off x.cells = x.cells := by
                    apply List.ext_getElem?
                    intro j
                    rw [splice_get (by omega)]
                    by_cases hj : off ≤ j ∧ j < off + x.cells.length
                    · rw [if_pos hj]; congr 1; omega
                    · rw [if_neg hj]
                      have h1' : x.cells[j]? = none := by simp; omega
                      have h2' : old.cells[j]? = none := by simp; omega
                      rw [h1', h2']
                  have hqx : x.cells = [q] := by rw [← hsx, hq]
                  have hqs : storable q = true := storableAll_get hsto (j := 0) (by simp [hqx])
                  show (pack false [q]).cells = [q]
                  simp only [pack]
                  cases q with
                  | t y => cases y <;> first | rfl | (simp [storable] at hqs)
                  | agg => simp [storable] at hqs
                  | dead => simp [storable] at hqs
                  | _ => rfl
              refine ⟨⟨_, _, D, β, hrun, rfl, f, g, fun o' y hy hyy => ?_, fun o' e' y' hy' => .inl ⟨e', y', hy'⟩⟩, fun o' ho' => ?_, by simp⟩
              · rcases hy with hy | ⟨hy1, hy2⟩
                · simp [objsOf] at hy
                  subst hy
                  have : (h.set o' (.row k' (elems.set i (pack old.isAgg (splice old.cells off x.cells))) e))[o']? = some (.row k' (elems.set i (pack old.isAgg (splice old.cells off x.cells))) e) := by simp [holt]
                  rw [this] at hyy
                  cases hyy
                  refine ⟨fun j y hy => ?_, fun e' b' k2 hb' => ?_⟩
                  · rw [List.getElem?_set] at hy
                    split at hy
                    · rename_i hij
                      subst hij
                      simp [hilt] at hy
                      subst hy
                      rw [hnew]; exact hspl
                    · exact hok.1 j y hy
                  · obtain ⟨q1, q2, q3, q4⟩ := hok.2 e' b' k2 hb'
                    refine ⟨q1, q2, by simpa using q3, fun hle => ?_⟩
                    have he' : e' = e := by omega
                    subst he'
                    rw [hb] at hb'
                    cases hb'
                    refine ⟨c', ty, e5, by rw [e6]; exact h2, fun j y m u hj hy hu => ?_⟩
                    rw [List.getElem?_set] at hy
                    split at hy
                    · rename_i hij
                      subst hij
                      simp [hilt] at hy
                      subst hy
                      rw [hnew, splice_get (by omega)] at hu
                      have hmk : m < k' := by
                        by_cases hm2 : off ≤ m ∧ m < off + x.cells.length
                        · omega
                        · rw [if_neg hm2] at hu
                          have := (List.getElem?_eq_some_iff.1 hu).1
                          omega
                      rw [e7]
                      by_cases hm2 : off ≤ m ∧ m < off + x.cells.length
                      · rw [if_pos hm2] at hu
                        rw [if_pos (by rw [hvsz]; omega)]
                        have hidx : i * k' + m - (i * k' + off) = m - off := by omega
                        rw [hidx]
                        have hlt : m - off < vx.cells.size := by rw [hcx.1]; omega
                        have hget : vx.cells[m - off]? = some vx.cells[m - off] := by simp [hlt]
                        have hrp := hcx.2 (m - off) _ u hget hu
                        exact ⟨vx.cells[m - off], by rw [← Array.getElem?_toList] at hget; exact hget, storable_ok (storableAll_get hsto hu) hrp, hrp.mono f.ext⟩
                      · rw [if_neg hm2] at hu
                        rw [if_neg (by rw [hvsz]; omega)]
                        obtain ⟨v, p1, p2, p3⟩ := h3 i old m u (by omega) hold hu
                        exact ⟨v, p1, p2, p3.mono f.ext⟩
                    · rename_i hij
                      rw [e7]
                      have hmk : m < k' := by
                        have h1 := (List.getElem?_eq_some_iff.1 hu).1
                        have h2 := hok.1 j y hy
                        omega
                      have hne : ¬ (i * k' + off ≤ j * k' + m ∧ j * k' + m < i * k' + off + vx.cells.toList.length) := by
                        rw [hvsz]
                        rcases Nat.lt_or_gt_of_ne hij with hlt | hgt
                        · have := Nat.mul_le_mul_right k' (show i + 1 ≤ j from hlt)
                          omega
                        · have h1 := Nat.mul_le_mul_right k' (show j + 1 ≤ i from hgt)
                          have h2 : (j + 1) * k' = j * k' + k' := Nat.succ_mul j k'
                          omega
                      rw [if_neg hne]
                      obtain ⟨v, p1, p2, p3⟩ := h3 j y m u (by omega) hy hu
                      exact ⟨v, p1, p2, p3.mono f.ext⟩
                · simp at hy2; omega
              · rw [List.getElem?_set, if_neg]
                rintro rfl
                exact ho' (.inl (by simp [objsOf]))
          · simp [hc2] at hst
        · simp at hst
      · simp [hc] at hst
    · simp at hst
  · simp at hst

end Go.Abs

/- Slices that are made: literals, make, append, copy. -/
namespace Go.Abs
open Go

variable {P : Program} {Z : Base} {D : Dom} {β : Bet} {w : World} {h h' : Heap}

theorem Rep.slice_formA {v : Value} {clip : Bool} {k : Nat} (hr : RepT D w v (.sl clip k [])) : ∃ a cap, v = .slice a 0 cap ∧ 0 ≤ cap ∧ True := by
  obtain ⟨a, cap, e, _, _⟩ := Rep.slice_form hr
  exact ⟨a, cap, e, Nat.zero_le _, trivial⟩

/-- The cells that the first m elements of a slice lie in, read. -/
theorem run_elems_first [Cp] {size m : Nat} {x : AV} {vx : Value} {xs : List AV} (he : elemsOf h size x = some xs) (hx : Rep D β w vx x) (hm : m ≤ xs.length)
    (hobj : ∀ (o : Nat) y, o ∈ objsOf x → h[o]? = some y → ObjOk D β w o y) :
    ∃ c, (Builtin.lenOf vx).run P w = .ok xs.length w ∧ (Builtin.firstCells size m vx).run P w = .ok c w ∧ FlatRep D β w size c (xs.take m) ∧ c.size = m * size := by
  have empty : ∀ (a : Option Addr) (cap : Nat), xs = [] → vx = .slice a 0 cap →
      ∃ c, (Builtin.lenOf vx).run P w = .ok xs.length w ∧ (Builtin.firstCells size m vx).run P w = .ok c w ∧ FlatRep D β w size c (xs.take m) ∧ c.size = m * size := by
    intro a cap e1 e2
    subst e1; subst e2
    have hm0 : m = 0 := by simpa using hm
    subst hm0
    refine ⟨#[], rfl, ?_, ⟨by simp, by simp, by simp⟩, by simp⟩
    cases a with
    | none => rfl
    | some a => simp [Builtin.firstCells, loadCells, loadCellsFrom, pure, Sem.run]
  unfold elemsOf at he
  split at he
  · rename_i clip k
    simp at he; subst he
    obtain ⟨a, cap, rfl, _, _⟩ := Rep.slice_formA hx.toT
    exact empty a cap rfl rfl
  · rename_i clip k y ys
    by_cases hk : k = size
    · subst hk
      simp at he; subst he
      have ht := hx.toT
      cases ht with
      | sl b off len cap _ _ _ hD hlen hcap hclip hkk c hc hr =>
        have hml : m ≤ len := by rw [hlen]; simpa using hm
        have hmk : m * k ≤ len * k := Nat.mul_le_mul_right k hml
        have hrun := run_loadCells (P := P) (w := w) (b := b) (off := off) (c := c) (m * k) (fun j hj => (hc j (by omega)).1)
        refine ⟨((List.range (m * k)).map c).toArray, ?_, hrun, ⟨?_, ?_, ?_⟩, ?_⟩
        · simp [Builtin.lenOf, pure, Sem.run, hlen]
        · simp at hm
          simp [Nat.min_eq_left hm]
        · intro i x hx
          rw [← List.map_cons, List.getElem?_take] at hx
          split at hx
          · rw [List.getElem?_map, Option.map_eq_some_iff] at hx
            obtain ⟨u, hu, rfl⟩ := hx
            rw [tcells]; simp; exact hkk i u hu
          · simp at hx
        · intro i x j t hx' ht'
          rw [← List.map_cons, List.getElem?_take] at hx'
          split at hx'
          · rename_i him
            rw [List.getElem?_map, Option.map_eq_some_iff] at hx'
            obtain ⟨u, hu, rfl⟩ := hx'
            rw [tcells, List.getElem?_map, Option.map_eq_some_iff] at ht'
            obtain ⟨u', hu', rfl⟩ := ht'
            have hj : j < k := by rw [← hkk i u hu]; exact (List.getElem?_eq_some_iff.1 hu').1
            have hlt : i * k + j < m * k := by
              have h1 := Nat.mul_le_mul_right k (show i + 1 ≤ m from him)
              have h2 : (i + 1) * k = i * k + k := Nat.succ_mul i k
              omega
            exact ⟨c (i * k + j), by simp [hlt], (hc _ (by omega)).2, .t _ _ (hr i u j u' hu hu')⟩
          · simp at hx'
        · simp
    · simp [hk] at he
  · simp at he; subst he
    obtain ⟨rfl, _⟩ := hx.toT.sc_eq
    exact empty _ _ rfl rfl
  · rename_i o e i len k clip
    split at he
    · rename_i k2 elems mr ho
      by_cases hc : k = size ∧ mr ≤ e ∧ e ≤ elems.length ∧ i + len ≤ e
      · rw [if_pos hc] at he
        obtain ⟨rfl, hmr, hel, hile⟩ := hc
        simp at he; subst he
        have hlen : ((elems.drop i).take len).length = len := by simp; omega
        rw [hlen] at hm
        rw [hlen]
        have hok := hobj o _ (by simp [objsOf]) ho
        cases hx with
        | ms0 a =>
          have hm0 : m = 0 := by omega
          subst hm0
          refine ⟨#[], rfl, ?_, ⟨by simp, by simp, by simp⟩, by simp⟩
          cases a with
          | none => rfl
          | some a => simp [Builtin.firstCells, loadCells, loadCellsFrom, pure, Sem.run]
        | ms _ _ _ _ _ _ b cap n hb hle hcap hclip hn hsz =>
          obtain ⟨hD, hk, hel', hcc⟩ := hok.2 e b k hb
          subst hk
          obtain ⟨c, ty, h1, h2, h3⟩ := hcc hmr
          have hbd : (i + len) * k ≤ c.size := Nat.le_trans (Nat.mul_le_mul_right k hile) h2
          have hmul : (i + len) * k = i * k + len * k := Nat.add_mul i len k
          have hmk : m * k ≤ len * k := Nat.mul_le_mul_right k hm
          have hrun := run_loadCells (P := P) (w := w) (b := b) (off := i * k) (c := fun j => (c[i * k + j]?).getD default) (m * k) (fun j hj => by
            have hlt : i * k + j < c.size := by omega
            simp [World.cell?, h1, hlt])
          refine ⟨_, rfl, hrun, ⟨?_, ?_, ?_⟩, ?_⟩
          · have : ((List.take len (List.drop i elems)).take m).length = m := by rw [List.length_take, hlen]; exact Nat.min_eq_left hm
            rw [this]; simp
          · intro j x hx
            rw [List.getElem?_take] at hx
            split at hx
            · rw [List.getElem?_take] at hx
              split at hx
              · rw [List.getElem?_drop] at hx; exact hok.1 _ x hx
              · simp at hx
            · simp at hx
          · intro j x q t hx ht
            rw [List.getElem?_take] at hx
            split at hx
            · rename_i hjm
              rw [List.getElem?_take] at hx
              split at hx
              · rename_i hj
                rw [List.getElem?_drop] at hx
                have hmk : q < k := by rw [← hok.1 _ x hx]; exact (List.getElem?_eq_some_iff.1 ht).1
                obtain ⟨v, p1, p2, p3⟩ := h3 (i + j) x q t (by omega) hx ht
                have hlt : j * k + q < m * k := by
                  have g1 := Nat.mul_le_mul_right k (show j + 1 ≤ m from hjm)
                  have g2 : (j + 1) * k = j * k + k := Nat.succ_mul j k
                  omega
                have he : i * k + (j * k + q) = (i + j) * k + q := by rw [Nat.add_mul]; omega
                refine ⟨v, ?_, p2, p3⟩
                simp [hlt, he, p1]
              · simp at hx
            · simp at hx
          · simp
      · simp [hc] at he
    · simp at he
  · simp at he

theorem run_elems [Cp] {size : Nat} {x : AV} {vx : Value} {xs : List AV} (he : elemsOf h size x = some xs) (hx : Rep D β w vx x)
    (hobj : ∀ (o : Nat) y, o ∈ objsOf x → h[o]? = some y → ObjOk D β w o y) :
    ∃ c, (Builtin.lenOf vx).run P w = .ok xs.length w ∧ (Builtin.firstCells size xs.length vx).run P w = .ok c w ∧ FlatRep D β w size c xs ∧ c.size = xs.length * size := by
  have := run_elems_first (P := P) he hx (Nat.le_refl _) hobj
  rwa [List.take_length] at this

theorem FlatRep.append {k : Nat} {c d : Array Value} {xs ys : List AV} (h1 : FlatRep D β w k c xs) (hc : c.size = xs.length * k) (h2 : FlatRep D β w k d ys) : FlatRep D β w k (c ++ d) (xs ++ ys) := by
  refine ⟨by have := h2.1; simp [Nat.add_mul, hc]; exact this, fun i x hx => ?_, fun i x j t hx ht => ?_⟩
  · rw [List.getElem?_append] at hx
    split at hx
    · exact h1.2.1 i x hx
    · exact h2.2.1 _ x hx
  · rw [List.getElem?_append] at hx
    split at hx
    · rename_i hi
      obtain ⟨v, p1, p2, p3⟩ := h1.2.2 i x j t hx ht
      exact ⟨v, by rw [Array.getElem?_append, if_pos (Array.getElem?_eq_some_iff.1 p1).1]; exact p1, p2, p3⟩
    · rename_i hi
      obtain ⟨v, p1, p2, p3⟩ := h2.2.2 _ x j t hx ht
      refine ⟨v, ?_, p2, p3⟩
      have e : i * k = xs.length * k + (i - xs.length) * k := by rw [← Nat.add_mul]; congr 1; omega
      rw [Array.getElem?_append, if_neg (by rw [hc]; omega)]
      have e2 : i * k + j - c.size = (i - xs.length) * k + j := by rw [hc]; omega
      rw [e2]; exact p1

theorem FlatRep.more {k : Nat} {c d : Array Value} {xs : List AV} (h1 : FlatRep D β w k c xs) : FlatRep D β w k (c ++ d) xs := by
  refine ⟨by have := h1.1; simp; omega, h1.2.1, fun i x j t hx ht => ?_⟩
  obtain ⟨v, p1, p2, p3⟩ := h1.2.2 i x j t hx ht
  exact ⟨v, by rw [Array.getElem?_append, if_pos (Array.getElem?_eq_some_iff.1 p1).1]; exact p1, p2, p3⟩

/-- The cells of n zero values in a row. -/
theorem FlatRep.zeros {z : Value} {k n m : Nat} (hz : okVal z = true) (hk : (AV.t (ofVal z)).cells.length = k) (hs : storableAll (AV.t (ofVal z)).cells = true) (hnm : n ≤ m) (c : Array Value)
    (hcs : c.size = m * k) (hc : ∀ i, i < m * k → c[i]? = some (z.cells[i % k]!)) (hk0 : k ≠ 0) : FlatRep D β w k c (List.replicate n (.t (ofVal z))) := by
  have hr : Rep D β w z (.t (ofVal z)) := .t _ _ (okVal_rep hz)
  have hcell := hr.cells (by simp)
  refine ⟨by simp [hcs]; exact Nat.mul_le_mul_right k hnm, fun i x hx => ?_, fun i x j t hx ht => ?_⟩
  · simp [List.getElem?_replicate] at hx
    obtain ⟨_, rfl⟩ := hx
    exact hk
  · simp [List.getElem?_replicate] at hx
    obtain ⟨hi, rfl⟩ := hx
    have hj : j < k := by rw [← hk]; exact (List.getElem?_eq_some_iff.1 ht).1
    have hlt : i * k + j < m * k := by
      have g1 := Nat.mul_le_mul_right k (show i + 1 ≤ m by omega)
      have g2 : (i + 1) * k = i * k + k := Nat.succ_mul i k
      omega
    have hmod : (i * k + j) % k = j := by rw [Nat.mul_comm, Nat.mul_add_mod]; exact Nat.mod_eq_of_lt hj
    have hjz : j < z.cells.size := by rw [hcell.1, hk]; exact hj
    have hget : z.cells[j]? = some z.cells[j] := by simp [hjz]
    have hrp := hcell.2 j _ t hget ht
    refine ⟨z.cells[j], ?_, storable_ok (storableAll_get hs ht) hrp, hrp⟩
    rw [hc _ hlt, hmod]
    simp [hjz]

/-- A new slice over a new row. -/
theorem newSlice_done [Cp] {k : Nat} {elems : List AV} {c : Array Value} {ty : TypeId} {w0 : World} {cap : Nat} {clip : Bool} {tch : List Nat} (f0 : Frm (fun _ => False) D β w0 D β w) (hg : GInv Z D β w)
    (hf : FlatRep D β w k c elems) (hn : ∀ e, β h.length e = none)
    (hcap : elems.length ≤ cap) (hclip : clip = true → cap = elems.length) (hsz : cap * k ≤ c.size) (hob : ∀ (o : Nat) x, o ∈ tch → h[o]? = some x → ObjOk D β w0 o x) :
    Done Z D β w0 (h ++ [.row k elems 0]) (stepS tch h (h ++ [.row k elems 0])) (.ms h.length elems.length 0 elems.length k clip)
      (.ok (.value (.slice (some ⟨w.heap.size, 0, none⟩) elems.length cap)) (w.alloc (.cells c ty (0, 0)))) := by
  obtain ⟨f, g, ob⟩ := row_new (ty := ty) hg hf hn
  have hfr : Frm (fun q => q = h.length) D β w0 D (bAdd β h.length elems.length w.heap.size k) (w.alloc (.cells c ty (0, 0))) :=
    (f0.mono (fun _ hx => hx.elim)).trans f
  refine ⟨_, _, D, _, rfl, ?_, hfr.mono (fun o ho => by subst ho; exact .inr ⟨Nat.le_refl _, by simp⟩), g, fun o y hy he => ?_, dom_bAdd (by simp)⟩
  · have := Rep.ms (D := D) (w := w.alloc (.cells c ty (0, 0))) h.length elems.length 0 elems.length k clip w.heap.size cap c.size (bAdd_same β h.length elems.length w.heap.size k) (by omega) hcap hclip
      (by simp only [rowSize, heap_alloc_new]) (by simpa using hsz)
    simpa using this
  · by_cases e : o = h.length
    · subst e
      rw [get_append_new] at he
      cases he
      exact ob
    · have hlt : o < h.length := by
        have := (List.getElem?_eq_some_iff.1 he).1
        simp at this; omega
      rw [List.getElem?_append_left hlt] at he
      rcases hy with hy | ⟨h1, h2⟩
      · exact (hob o y hy he).frame hfr e
      · omega

theorem append_new_get (h : Heap) (x : AObj) (tch : List Nat) (o : Nat) (ho : ¬ stepS tch h (h ++ [x]) o) : (h ++ [x])[o]? = h[o]? := by
  rw [List.getElem?_append]
  split
  · rfl
  · rename_i hl
    have : ¬ (h.length ≤ o ∧ o < (h ++ [x]).length) := fun hh => ho (.inr hh)
    have hge : (h ++ [x]).length ≤ o := by omega
    simp at hge
    have h1 : ([x] : Heap)[o - h.length]? = none := by simp; omega
    have h2 : h[o]? = none := by simp; omega
    rw [h1, h2]

theorem run_append_grows {t u elem eu ty : TypeId} {size bytes sLen sCap n : Nat} {base : Option Addr} {vx z : Value} {old new : Array Value} (ht : typ P t = some (.slice elem)) (hu : typ P u = some (.slice eu))
    (hs : szOf P elem = some size) (hb : byOf P elem = some bytes) (hb0 : bytes ≠ 0) (hz : ∀ w, (zeroValue elem).run P w = .ok z w) (hcap : sCap < sLen + n) (hroom : (sLen + n) * bytes ≤ roomB)
    (hlen : ∀ w, (Builtin.lenOf vx).run P w = .ok n w) (hold : (Builtin.firstCells size sLen (.slice base sLen sCap)).run P w.drew = .ok old w.drew)
    (hnew : (Builtin.firstCells size n vx).run P w.drew = .ok new w.drew) :
    ∃ newCap, sLen + n ≤ newCap ∧ (Builtin.append_ #[t, u] ty #[.slice base sLen sCap, vx]).run P w =
      .ok (.slice (some ⟨w.heap.size, 0, none⟩) (sLen + n) newCap) (w.drew.alloc (.cells (old ++ new ++ Builtin.zeroCells z.cells (newCap - (sLen + n))) elem (0, 0))) := by
  obtain ⟨i, hi, hib⟩ := byOf_info hb
  refine ⟨(sLen + n) + w.tape w.drawn (.appendCap (sLen + n) sCap elem) % (2 ^ 63 - (sLen + n)), by omega, ?_⟩
  have hng : ¬ (sLen + n ≤ sCap) := by omega
  have hfit : ¬ (281474976710656 < Builtin.nextslicecap (sLen + n) sCap * i.bytes) := by
    have := growslice_fits hcap (by rw [roomB] at hroom; exact hroom)
    rw [hib]; omega
  have hb0' : i.bytes ≠ 0 := by rw [hib]; exact hb0
  have hask : ∀ (m : Nat) (w' : World), (askRoom m).run P w' = .ok () w' := by
    intro m w'
    unfold askRoom
    split <;> rfl
  simp only [Builtin.append_, Sem.run_bind, run_underlying ht, run_underlying hu, run_sizeOf hs, Result.andThen, List.getElem?_toArray, List.getElem?_cons_zero, List.getElem?_cons_succ, Sem.run_pure, hlen]
  simp [Result.andThen, hng, hfit, hb0', run_typeInfo hi, hask, hz, run_newRow, hlen, hold, hnew, Question.forced, Question.cut]

end Go.Abs

/- append and copy. -/
namespace Go.Abs
open Go

variable {P : Program} {Z : Base} {D : Dom} {β : Bet} {w : World} {h h' : Heap}

theorem ext_drew (D : Dom) (β : Bet) (w : World) : Ext D β w D β w.drew :=
  ⟨fun _ h => h, fun _ _ => rfl, fun _ _ _ h => h, fun _ _ h => h, fun _ _ h => h, fun _ L h => ⟨L, h⟩, Nat.le_refl _⟩

theorem frm_drew' {S : Nat → Prop} (D : Dom) (β : Bet) (w : World) : Frm S D β w D β w.drew :=
  ⟨ext_drew D β w, fun _ _ _ _ _ _ => ⟨rfl, id⟩, fun _ _ _ => rfl⟩

theorem GInv.drew (hg : GInv Z D β w) : GInv Z D β w.drew := ⟨hg.size0, hg.old, hg.os, hg.out, hg.dlt, hg.dn, hg.blt, hg.inj, hg.nd⟩

theorem zeroCells_size (z : Array Value) (n : Nat) : (Builtin.zeroCells z n).size = n * z.size := by simp [Builtin.zeroCells]

theorem zeroCells_some {elem : TypeId} {size : Nat} (hz : zeroCells P elem = some size) : ∃ z, (∀ w, (zeroValue elem).run P w = .ok z w) ∧ z.cells.size = size := by
  unfold zeroCells at hz
  cases hzo : zeroOf P elem with
  | none => simp [hzo] at hz
  | some x =>
    obtain ⟨z, hok, rfl, hzr⟩ := zeroOf_val hzo
    simp [hzo] at hz
    refine ⟨z, hzr, ?_⟩
    have := (Rep.cells (D := fun _ => True) (β := fun _ _ => none) (w := default) (.t _ _ (okVal_rep hok)) (by simp)).1
    rw [this, hz]

/-- The appended elements go into a new row. -/
theorem append_new [Cp] {t u elem eu ty : TypeId} {size bytes : Nat} {s x : AV} {vs vx : Value} {xs ys : List AV} (hg : GInv Z D β w) (ht : typ P t = some (.slice elem)) (hu : typ P u = some (.slice eu))
    (hs : szOf P elem = some size) (hb : byOf P elem = some bytes) (hb0 : bytes ≠ 0) (hz : zeroCells P elem = some size) (hys : elemsOf h size s = some ys) (hxs : elemsOf h size x = some xs)
    (hvs : Rep D β w vs s) (hvx : Rep D β w vx x) (hcap : ∀ base cap, vs = .slice base ys.length cap → cap < ys.length + xs.length) (hform : ∃ base cap, vs = .slice base ys.length cap)
    (hroom : (ys.length + xs.length) * bytes ≤ roomB) (hn : ∀ e, β h.length e = none) (tch : List Nat) (hobj : ∀ (o : Nat) y, o ∈ tch → h[o]? = some y → ObjOk D β w o y)
    (hts : ∀ o ∈ objsOf s, o ∈ tch) (htx : ∀ o ∈ objsOf x, o ∈ tch) :
    Done Z D β w (h ++ [.row size (ys ++ xs) 0]) (stepS tch h (h ++ [.row size (ys ++ xs) 0])) (.ms h.length (ys.length + xs.length) 0 (ys.length + xs.length) size false)
      ((do pure (Next.value (← Builtin.append_ #[t, u] ty #[vs, vx])) : Sem Next).run P w) := by
  obtain ⟨base, cap, rfl⟩ := hform
  obtain ⟨z, hzr, hzs⟩ := zeroCells_some hz
  have hobj' : ∀ (o : Nat) y, o ∈ tch → h[o]? = some y → ObjOk D β w.drew o y := fun o y ho hy => (hobj o y ho hy).frame (frm_drew' (S := fun _ => False) D β w) (fun hf => hf)
  obtain ⟨c1, l1, r1, f1, s1⟩ := run_elems (P := P) (w := w.drew) hys (hvs.mono (ext_drew D β w)) (fun o y ho hy => hobj' o y (hts o ho) hy)
  obtain ⟨c2, l2, r2, f2, s2⟩ := run_elems (P := P) (w := w.drew) hxs (hvx.mono (ext_drew D β w)) (fun o y ho hy => hobj' o y (htx o ho) hy)
  have hlen : ∀ w', (Builtin.lenOf vx).run P w' = .ok xs.length w' := by
    intro w'
    cases vx <;> simp [Builtin.lenOf, stuck, Sem.run, pure] at l2 ⊢ <;> exact l2
  obtain ⟨newCap, hnc, hrun⟩ := run_append_grows (w := w) (ty := ty) ht hu hs hb hb0 hzr (hcap base cap rfl) hroom hlen r1 r2
  have hf := (f1.append s1 f2).more (d := Builtin.zeroCells z.cells (newCap - (ys.length + xs.length)))
  have hl : (ys ++ xs).length = ys.length + xs.length := by simp
  have hd := newSlice_done (Z := Z) (h := h) (ty := elem) (w0 := w) (w := w.drew) (cap := newCap) (clip := false) (tch := tch) (frm_drew' D β w) hg.drew hf hn (by rw [hl]; exact hnc) (by simp)
    (by
      simp only [Array.size_append, zeroCells_size, s1, s2, hzs]
      rw [← Nat.add_mul, ← Nat.add_mul]
      exact Nat.mul_le_mul_right _ (by omega)) hobj
  rw [hl] at hd
  simp only [Sem.run_bind, hrun, Result.andThen, Sem.run_pure]
  exact hd

theorem run_append_fits {t u elem eu ty : TypeId} {size sLen sCap n : Nat} {base : Option Addr} {vx : Value} {new : Array Value} {w' : World} (ht : typ P t = some (.slice elem)) (hu : typ P u = some (.slice eu))
    (hs : szOf P elem = some size) (hcap : sLen + n ≤ sCap) (hlen : (Builtin.lenOf vx).run P w = .ok n w) (hnew : (Builtin.firstCells size n vx).run P w = .ok new w)
    (hst : ∀ a, base = some a → (storeCells (a.add (sLen * size)) new.toList).run P w = .ok () w') (hb : base = none → w' = w) :
    (Builtin.append_ #[t, u] ty #[.slice base sLen sCap, vx]).run P w = .ok (.slice base (sLen + n) sCap) w' := by
  simp only [Builtin.append_, Sem.run_bind, run_underlying ht, run_underlying hu, run_sizeOf hs, Result.andThen, List.getElem?_toArray, List.getElem?_cons_zero, List.getElem?_cons_succ, Sem.run_pure, hlen]
  cases base with
  | none => simp [Result.andThen, hlen, hnew, hcap, hb rfl]
  | some a => simp [Result.andThen, hlen, hnew, hcap, hst a rfl]

/-- Nothing is appended: nothing changes. -/
theorem append_none [Cp] {t u elem eu ty : TypeId} {size : Nat} {s x : AV} {vs vx : Value} (hg : GInv Z D β w) (ht : typ P t = some (.slice elem)) (hu : typ P u = some (.slice eu))
    (hs : szOf P elem = some size) (hxs : elemsOf h size x = some []) (hvs : Rep D β w vs s) (hvx : Rep D β w vx x) (hform : ∃ base len cap, vs = .slice base len cap ∧ len ≤ cap)
    (tch : List Nat) (hobj : ∀ (o : Nat) y, o ∈ tch → h[o]? = some y → ObjOk D β w o y) (htx : ∀ o ∈ objsOf x, o ∈ tch) :
    Done Z D β w h (stepS tch h h) s ((do pure (Next.value (← Builtin.append_ #[t, u] ty #[vs, vx])) : Sem Next).run P w) := by
  obtain ⟨base, len, cap, rfl, hlc⟩ := hform
  obtain ⟨c2, l2, r2, f2, s2⟩ := run_elems (P := P) hxs hvx (fun o y ho hy => hobj o y (htx o ho) hy)
  simp at l2 r2 s2
  subst s2
  have hrun := run_append_fits (w := w) (w' := w) (ty := ty) (base := base) (sLen := len) (sCap := cap) (n := 0) ht hu hs (by omega) l2 r2 (fun a _ => by simp [storeCells, Sem.run, pure]) (fun _ => rfl)
  simp only [Sem.run_bind, hrun, Result.andThen, Sem.run_pure]
  exact Done.pure hg hvs (fun o y ho hy => by
    rcases ho with ho | ho
    · exact hobj o y ho hy
    · omega)

theorem elems_ms {o e i len k : Nat} {clip : Bool} {size : Nat} {ys : List AV} (hy : elemsOf h size (.ms o e i len k clip) = some ys) : ∃ k2 elems mr, h[o]? = some (.row k2 elems mr) ∧ k = size ∧ mr ≤ e ∧ e ≤ elems.length ∧ i + len ≤ e ∧ ys = (elems.drop i).take len := by
  simp only [elemsOf] at hy
  split at hy
  · rename_i k2 elems mr ho
    by_cases hc : k = size ∧ mr ≤ e ∧ e ≤ elems.length ∧ i + len ≤ e
    · rw [if_pos hc] at hy
      simp at hy
      exact ⟨k2, elems, mr, ho, hc.1, hc.2.1, hc.2.2.1, hc.2.2.2, hy.symm⟩
    · simp [hc] at hy
  · simp at hy

theorem ms_inv {v : Value} {o e i len k : Nat} {clip : Bool} (hr : Rep D β w v (.ms o e i len k clip)) :
    (len = 0 ∧ ∃ a, v = .slice a 0 0) ∨ ∃ b cap n, β o e = some (b, k) ∧ i + len ≤ e ∧ len ≤ cap ∧ (clip = true → cap = len) ∧ rowSize w b = some n ∧ (i + cap) * k ≤ n ∧ v = .slice (some ⟨b, i * k, none⟩) len cap := by
  cases hr with
  | ms0 a => exact .inl ⟨rfl, a, rfl⟩
  | ms _ _ _ _ _ _ b cap n h1 h2 h3 h4 h5 h6 => exact .inr ⟨b, cap, n, h1, h2, h3, h4, h5, h6, rfl⟩

/-- The appended elements go behind the row's end: in place, or into a new block of the same object. -/
theorem append_grow [Cp] {t u elem eu ty : TypeId} {size bytes : Nat} {x : AV} {vs vx : Value} {xs : List AV} {o : Nat} {elems : List AV} {mr k2 : Nat} (hg : GInv Z D β w) (ht : typ P t = some (.slice elem)) (hu : typ P u = some (.slice eu))
    (hs : szOf P elem = some size) (hb : byOf P elem = some bytes) (hb0 : bytes ≠ 0) (hz : zeroCells P elem = some size) (hrow : h[o]? = some (.row k2 elems mr)) (hmr : mr ≤ elems.length)
    (hxs : elemsOf h size x = some xs) (hx0 : 0 < xs.length) (hvs : Rep D β w vs (.ms o elems.length 0 elems.length size false)) (hvx : Rep D β w vx x)
    (hroom : (elems.length + xs.length) * bytes ≤ roomB) (tch : List Nat) (hobj : ∀ (o : Nat) y, o ∈ tch → h[o]? = some y → ObjOk D β w o y)
    (hto : o ∈ tch) (htx : ∀ o ∈ objsOf x, o ∈ tch) (hk2 : k2 = size) :
    Done Z D β w (h.set o (.row size (elems ++ xs) mr)) (stepS tch h (h.set o (.row size (elems ++ xs) mr))) (.ms o (elems.length + xs.length) 0 (elems.length + xs.length) size false)
      ((do pure (Next.value (← Builtin.append_ #[t, u] ty #[vs, vx])) : Sem Next).run P w) := by
  have hlt : o < h.length := (List.getElem?_eq_some_iff.1 hrow).1
  have hrok : RowOk D β w o k2 elems mr := hobj o _ hto hrow
  have hnone : ∀ e, elems.length < e → β o e = none := by
    intro e he
    cases hbe : β o e with
    | none => rfl
    | some y =>
      have := (hrok.2 e y.1 y.2 hbe).2.2.1
      omega
  have hk := hk2
  subst hk
  have hyse : elemsOf h k2 (.ms o elems.length 0 elems.length k2 false) = some elems := by
    simp [elemsOf, hrow, hmr]
  have other : ∀ (D' : Dom) (β' : Bet) (w' : World), Frm (fun q => q = o) D β w D' β' w' → RowOk D' β' w' o k2 (elems ++ xs) mr → ∀ (o' : Nat) y, stepS tch h (h.set o (.row k2 (elems ++ xs) mr)) o' → (h.set o (.row k2 (elems ++ xs) mr))[o']? = some y → ObjOk D' β' w' o' y := by
    intro D' β' w' hfr hro o' y ho' hy
    by_cases e : o' = o
    · subst e
      simp [hlt] at hy
      subst hy
      exact hro
    · rw [List.getElem?_set, if_neg (Ne.symm e)] at hy
      rcases ho' with ho' | ⟨h1, h2⟩
      · exact (hobj o' y ho' hy).frame hfr e
      · simp at h2; omega
  have sub : ∀ q, q = o → stepS tch h (h.set o (.row k2 (elems ++ xs) mr)) q := fun q hq => by subst hq; exact .inl hto
  have grow : ∀ base cap, vs = .slice base elems.length cap → cap < elems.length + xs.length →
      Done Z D β w (h.set o (.row k2 (elems ++ xs) mr)) (stepS tch h (h.set o (.row k2 (elems ++ xs) mr))) (.ms o (elems.length + xs.length) 0 (elems.length + xs.length) k2 false)
      ((do pure (Next.value (← Builtin.append_ #[t, u] ty #[vs, vx])) : Sem Next).run P w) := by
    intro base cap hve hcap
    subst hve
    obtain ⟨z, hzr, hzs⟩ := zeroCells_some hz
    have hobj' : ∀ (o : Nat) y, o ∈ tch → h[o]? = some y → ObjOk D β w.drew o y := fun o y ho hy => (hobj o y ho hy).frame (frm_drew' (S := fun _ => False) D β w) (fun hf => hf)
    obtain ⟨c1, l1, r1, f1, s1⟩ := run_elems (P := P) (w := w.drew) hyse (hvs.mono (ext_drew D β w)) (fun o' y ho hy => by simp [objsOf] at ho; subst ho; exact hobj' _ y hto hy)
    obtain ⟨c2, l2, r2, f2, s2⟩ := run_elems (P := P) (w := w.drew) hxs (hvx.mono (ext_drew D β w)) (fun o y ho hy => hobj' o y (htx o ho) hy)
    have hlen : ∀ w', (Builtin.lenOf vx).run P w' = .ok xs.length w' := by
      intro w'
      cases vx <;> simp [Builtin.lenOf, stuck, Sem.run, pure] at l2 ⊢ <;> exact l2
    obtain ⟨newCap, hnc, hrun⟩ := run_append_grows (w := w) (ty := ty) ht hu hs hb hb0 hzr hcap hroom hlen r1 r2
    have hf := (f1.append s1 f2).more (d := Builtin.zeroCells z.cells (newCap - (elems.length + xs.length)))
    simp only [Sem.run_bind, hrun, Result.andThen, Sem.run_pure]
    -- the new block
    have fa : Frm (fun q => q = o) D β w D β (w.drew.alloc (.cells (c1 ++ c2 ++ Builtin.zeroCells z.cells (newCap - (elems.length + xs.length))) elem (0, 0))) := (frm_drew' D β w).trans (frm_alloc hg.drew _)
    have ga : GInv Z D β (w.drew.alloc (.cells (c1 ++ c2 ++ Builtin.zeroCells z.cells (newCap - (elems.length + xs.length))) elem (0, 0))) := hg.drew.alloc _ (fun _ _ _ h => by cases h; rfl)
    have fb := fa.trans (frm_bAdd (D := D) (w := w.drew.alloc (.cells (c1 ++ c2 ++ Builtin.zeroCells z.cells (newCap - (elems.length + xs.length))) elem (0, 0))) (b := w.heap.size) (k := k2) (S := fun q => q = o) rfl (hnone (elems.length + xs.length) (by omega)))
    have gb := ga.bAdd (o := o) (e := elems.length + xs.length) (b := w.heap.size) (k := k2) hg.size0 (by simp) (fun o' e' k' hb' => by have := (hg.blt _ _ _ _ hb').2; omega) (fun ds hx => by have hq := heap_alloc_new (w := w.drew) (.cells (c1 ++ c2 ++ Builtin.zeroCells z.cells (newCap - (elems.length + xs.length))) elem (0, 0)); rw [show w.drew.heap.size = w.heap.size from rfl, hx] at hq; cases hq)
    have hnewb : (w.drew.alloc (.cells (c1 ++ c2 ++ Builtin.zeroCells z.cells (newCap - (elems.length + xs.length))) elem (0, 0))).heap[w.heap.size]? = some (.cells (c1 ++ c2 ++ Builtin.zeroCells z.cells (newCap - (elems.length + xs.length))) elem (0, 0)) := heap_alloc_new (w := w.drew) _
    refine ⟨_, _, D, _, rfl, ?_, fb.mono sub, gb, other _ _ _ fb ?_, dom_bAdd (by simp [hlt])⟩
    · have := Rep.ms (D := D) (w := w.drew.alloc (.cells (c1 ++ c2 ++ Builtin.zeroCells z.cells (newCap - (elems.length + xs.length))) elem (0, 0))) o (elems.length + xs.length) 0 (elems.length + xs.length) k2 false w.heap.size newCap (c1 ++ c2 ++ Builtin.zeroCells z.cells (newCap - (elems.length + xs.length))).size
        (bAdd_same β o (elems.length + xs.length) w.heap.size k2) (by omega) hnc (by simp) (by simp only [rowSize, hnewb]) (by
          simp only [Array.size_append, zeroCells_size, s1, s2, hzs, Nat.zero_add]
          rw [← Nat.add_mul, ← Nat.add_mul]
          exact Nat.mul_le_mul_right _ (by omega))
      simpa using this
    · refine ⟨hf.2.1, fun e b k' hb' => ?_⟩
      rcases bAdd_cases hb' with ⟨_, rfl, hy⟩ | ⟨hb', _⟩
      · cases hy
        refine ⟨fun hD => by have := hg.dlt _ hD; omega, rfl, by simp, fun _ => ⟨_, elem, hnewb, by simpa using hf.1, fun i y j t _ hy ht' => ?_⟩⟩
        obtain ⟨v, p1, p2, p3⟩ := hf.2.2 i y j t hy ht'
        exact ⟨v, p1, p2, p3.mono (((frm_alloc (S := fun q => q = o) hg.drew _).trans (frm_bAdd rfl (hnone (elems.length + xs.length) (by omega)))).ext)⟩
      · obtain ⟨q1, q2, q3, q4⟩ := hrok.2 e b k' hb'
        refine ⟨q1, q2, by simp; omega, fun hm => ?_⟩
        obtain ⟨c, ty', h1, h2, h3⟩ := q4 hm
        refine ⟨c, ty', ?_, h2, fun i y j t hi hy ht' => ?_⟩
        · have hbl := (hg.blt _ _ _ _ hb').2
          have e0 : (w.drew.alloc (.cells (c1 ++ c2 ++ Builtin.zeroCells z.cells (newCap - (elems.length + xs.length))) elem (0, 0))).heap[b]? = w.heap[b]? := heap_alloc_old (w := w.drew) hbl
          rw [e0]; exact h1
        · rw [List.getElem?_append_left (by omega)] at hy
          obtain ⟨v, p1, p2, p3⟩ := h3 i y j t hi hy ht'
          exact ⟨v, p1, p2, p3.mono fb.ext⟩
  rcases ms_inv hvs with ⟨hl, a, hv⟩ | ⟨b, cap, n, hbb, hle, hcapl, hclip, hn, hsz, hv⟩
  · exact grow a 0 (by rw [hl]; exact hv) (by omega)
  · subst hv
    by_cases hfit : elems.length + xs.length ≤ cap
    · -- there is room
      obtain ⟨hD, _, _, hcc⟩ := hrok.2 _ _ _ hbb
      obtain ⟨c, ty', h1, h2, h3⟩ := hcc hmr
      obtain ⟨c2, l2, r2, f2, s2⟩ := run_elems (P := P) hxs hvx (fun o y ho hy => hobj o y (htx o ho) hy)
      have hn' : n = c.size := by simpa [rowSize, h1] using hn.symm
      subst hn'
      have hroom2 : elems.length * k2 + c2.toList.length ≤ c.size := by
        have g1 : (elems.length + xs.length) * k2 ≤ cap * k2 := Nat.mul_le_mul_right k2 hfit
        have g2 : (elems.length + xs.length) * k2 = elems.length * k2 + xs.length * k2 := Nat.add_mul _ _ _
        have g3 : (0 + cap) * k2 = cap * k2 := by rw [Nat.zero_add]
        have g4 : c2.toList.length = xs.length * k2 := by simpa using s2
        omega
      have hokc : ∀ v ∈ c2.toList, okCell v = true := by
        intro v hv
        obtain ⟨j, hj, rfl⟩ := List.getElem_of_mem hv
        simp at hj
        rw [s2] at hj
        by_cases hk0 : k2 = 0
        · subst hk0; simp at hj
        · have hdiv : j / k2 < xs.length := (Nat.div_lt_iff_lt_mul (by omega)).2 hj
          have hmod : j % k2 < k2 := Nat.mod_lt _ (by omega)
          have hxd : xs[j / k2]? = some xs[j / k2] := by simp [hdiv]
          have hcl := f2.2.1 _ _ hxd
          have hxt : xs[j / k2].cells[j % k2]? = some xs[j / k2].cells[j % k2] := by simp [hcl, hmod]
          obtain ⟨v, p1, p2, _⟩ := f2.2.2 _ _ _ _ hxd hxt
          have hjj : j / k2 * k2 + j % k2 = j := by rw [Nat.mul_comm]; exact Nat.div_add_mod j k2
          rw [hjj] at p1
          have : c2.toList[j]? = some v := by simpa using p1
          have hv' : c2.toList[j] = v := by
            have := (List.getElem?_eq_some_iff.1 this).2
            exact this
          rw [hv']; exact p2
      have hst : ∀ a, some (⟨b, 0 * k2, none⟩ : Addr) = some a → (storeCells (a.add (elems.length * k2)) c2.toList).run P w = .ok () (wrote w b (elems.length * k2) c2.toList) := by
        intro a ha
        cases ha
        rw [addr_add]
        have := run_storeCells (P := P) c2.toList w b (elems.length * k2) 0 c ty' h1 (by simpa using hroom2) hokc
        simpa using this
      have hrun := run_append_fits (w := w) (ty := ty) (base := some ⟨b, 0 * k2, none⟩) (sLen := elems.length) (sCap := cap) ht hu hs hfit l2 r2 hst (by simp)
      simp only [Sem.run_bind, hrun, Result.andThen, Sem.run_pure]
      obtain ⟨fw, gw⟩ := frm_wrote (S := fun q => q = o) hg (off := elems.length * k2) (vs := c2.toList) rfl hbb hD h1 hroom2
      obtain ⟨e1, e2, e3, e4, c', e5, e6, e7⟩ := wrote_facts c2.toList w b (elems.length * k2) c ty' (0, 0) h1 hroom2
      have fb := fw.trans (frm_bAdd (D := D) (w := wrote w b (elems.length * k2) c2.toList) (b := b) (k := k2) (S := fun q => q = o) rfl (hnone (elems.length + xs.length) (by omega)))
      have gb := gw.bAdd (o := o) (e := elems.length + xs.length) (b := b) (k := k2) (hg.blt _ _ _ _ hbb).1 (by rw [e1]; exact (hg.blt _ _ _ _ hbb).2) (fun o' e' k' hb' => hg.inj _ _ _ _ _ _ _ hb' hbb) (fun ds hx => (gw.nd _ ds hx (hg.blt _ _ _ _ hbb).1).2 _ _ _ hbb)
      have hrs : rowSize (wrote w b (elems.length * k2) c2.toList) b = some c.size := by simp only [rowSize, e5, e6]
      refine ⟨_, _, D, _, rfl, ?_, fb.mono sub, gb, other _ _ _ fb ?_, dom_bAdd (by simp [hlt])⟩
      · exact Rep.ms (D := D) (w := wrote w b (elems.length * k2) c2.toList) o (elems.length + xs.length) 0 (elems.length + xs.length) k2 false b cap c.size
          (bAdd_same β o (elems.length + xs.length) b k2) (by omega) hfit (by simp) hrs hsz
      · -- the old cells are as they were, the new ones behind them
        have hcell : ∀ (i : Nat) y (j : Nat) tt, (elems ++ xs)[i]? = some y → y.cells[j]? = some tt → ∀ (hcont : ∀ (i : Nat) x (j : Nat) t, i < elems.length → elems[i]? = some x → x.cells[j]? = some t → ∃ v, c[i * k2 + j]? = some v ∧ okCell v = true ∧ Rep D β w v t),
            ∃ v, c'[i * k2 + j]? = some v ∧ okCell v = true ∧ Rep D (bAdd β o (elems.length + xs.length) b k2) (wrote w b (elems.length * k2) c2.toList) v tt := by
          intro i y j tt hy ht' hcont
          rw [e7]
          rw [List.getElem?_append] at hy
          split at hy
          · rename_i hi
            have hjk : j < k2 := by rw [← hrok.1 i y hy]; exact (List.getElem?_eq_some_iff.1 ht').1
            have g1 := Nat.mul_le_mul_right k2 (show i + 1 ≤ elems.length from hi)
            have g2 : (i + 1) * k2 = i * k2 + k2 := Nat.succ_mul i k2
            rw [if_neg (by omega)]
            obtain ⟨v, p1, p2, p3⟩ := hcont i y j tt hi hy ht'
            exact ⟨v, p1, p2, p3.mono fb.ext⟩
          · rename_i hi
            obtain ⟨v, p1, p2, p3⟩ := f2.2.2 _ y j tt hy ht'
            have g1 : i * k2 = elems.length * k2 + (i - elems.length) * k2 := by rw [← Nat.add_mul]; congr 1; omega
            have hlt2 := (Array.getElem?_eq_some_iff.1 p1).1
            rw [if_pos (by simp only [Array.length_toList]; omega)]
            have g2 : i * k2 + j - elems.length * k2 = (i - elems.length) * k2 + j := by omega
            rw [g2]
            exact ⟨v, by simpa using p1, p2, p3.mono fb.ext⟩
        refine ⟨fun i y hy => ?_, fun e b' k' hb' => ?_⟩
        · rw [List.getElem?_append] at hy
          split at hy
          · exact hrok.1 i y hy
          · exact f2.2.1 _ y hy
        · rcases bAdd_cases hb' with ⟨_, rfl, hy⟩ | ⟨hb', _⟩
          · cases hy
            refine ⟨hD, rfl, by simp, fun _ => ⟨c', ty', e5, ?_, fun i y j tt _ hy ht' => hcell i y j tt hy ht' h3⟩⟩
            rw [e6]
            have g1 : (elems.length + xs.length) * k2 = elems.length * k2 + xs.length * k2 := Nat.add_mul _ _ _
            have g4 : c2.toList.length = xs.length * k2 := by simpa using s2
            omega
          · obtain ⟨q1, q2, q3, q4⟩ := hrok.2 e b' k' hb'
            refine ⟨q1, q2, by simp; omega, fun hm => ?_⟩
            obtain ⟨c3, ty3, h1', h2', h3'⟩ := q4 hm
            by_cases hbe : b' = b
            · subst hbe
              rw [h1] at h1'
              cases h1'
              refine ⟨c', ty', e5, by rw [e6]; exact h2', fun i y j tt hi hy ht' => ?_⟩
              have hy0 : elems[i]? = some y := by rw [List.getElem?_append_left (by omega)] at hy; exact hy
              have hjk : j < k2 := by rw [← hrok.1 i y hy0]; exact (List.getElem?_eq_some_iff.1 ht').1
              have g1 := Nat.mul_le_mul_right k2 (show i + 1 ≤ elems.length by omega)
              have g2 : (i + 1) * k2 = i * k2 + k2 := Nat.succ_mul i k2
              rw [e7, if_neg (by omega)]
              obtain ⟨v, p1, p2, p3⟩ := h3' i y j tt hi hy0 ht'
              exact ⟨v, p1, p2, p3.mono fb.ext⟩
            · refine ⟨c3, ty3, by rw [e4 b' hbe]; exact h1', h2', fun i y j tt hi hy ht' => ?_⟩
              rw [List.getElem?_append_left (by omega)] at hy
              obtain ⟨v, p1, p2, p3⟩ := h3' i y j tt hi hy ht'
              exact ⟨v, p1, p2, p3.mono fb.ext⟩
    · exact grow _ cap rfl (by omega)

end Go.Abs

/- append, copy, literals of slices, make: each as the evaluator has it. -/
namespace Go.Abs
open Go

variable {P : Program} {Z : Base} {D : Dom} {β : Bet} {w : World} {h h' : Heap}

theorem aAppend_done [Cp] {t u eu ty : TypeId} {s x v : AV} {vs vx : Value} (hg : GInv Z D β w) (ha : aAppend P t s x h = some (v, h')) (hu : typ P u = some (.slice eu)) (hvs : Rep D β w vs s) (hvx : Rep D β w vx x)
    (hn : h.length < h'.length → ∀ e, β h.length e = none) (hobj : ∀ (o : Nat) y, o ∈ objsOf s ++ objsOf x → h[o]? = some y → ObjOk D β w o y) :
    Done Z D β w h' (stepS (objsOf s ++ objsOf x) h h') v ((do pure (Next.value (← Builtin.append_ #[t, u] ty #[vs, vx])) : Sem Next).run P w) ∧
    (∀ o : Nat, ¬ stepS (objsOf s ++ objsOf x) h h' o → h'[o]? = h[o]?) ∧ h.length ≤ h'.length := by
  unfold aAppend at ha
  split at ha
  · rename_i elem ht
    split at ha
    · rename_i size bytes hs hb
      split at ha
      · rename_i xs hxs
        by_cases hc : size = 0 ∨ bytes = 0 ∨ zeroCells P elem ≠ some size
        · simp [hc] at ha
        · rw [if_neg hc] at ha
          have hb0 : bytes ≠ 0 := fun e => hc (.inr (.inl e))
          have hz : zeroCells P elem = some size := Classical.byContradiction fun e => hc (.inr (.inr e))
          have htx : ∀ o ∈ objsOf x, o ∈ objsOf s ++ objsOf x := fun o ho => List.mem_append_right _ ho
          have hts : ∀ o ∈ objsOf s, o ∈ objsOf s ++ objsOf x := fun o ho => List.mem_append_left _ ho
          split at ha
          · -- nil
            obtain ⟨rfl, _⟩ := hvs.toT.sc_eq
            split at ha
            · simp at ha
              obtain ⟨rfl, rfl⟩ := ha
              exact ⟨append_none hg ht hu hs hxs hvs hvx ⟨_, _, _, rfl, Nat.le_refl _⟩ _ hobj htx, fun _ _ => rfl, Nat.le_refl _⟩
            · rename_i y ys
              split at ha
              · rename_i hroom
                simp at ha
                obtain ⟨rfl, rfl⟩ := ha
                have hd := append_new (ys := []) (ty := ty) (h := h) hg ht hu hs hb hb0 hz (by simp [elemsOf]) hxs hvs hvx (fun base cap e => by cases e; simp) ⟨_, _, rfl⟩ (by simpa using hroom) (hn (by simp)) _ hobj hts htx
                refine ⟨by simpa using hd, fun o ho => append_new_get h _ _ o ho, by simp⟩
              · simp at ha
          · -- a slice whose capacity is its length
            rename_i k ys
            split at ha
            · simp at ha
              obtain ⟨rfl, rfl⟩ := ha
              obtain ⟨a, cap, rfl, hcap, _⟩ := Rep.slice_form hvs.toT
              exact ⟨append_none hg ht hu hs hxs hvs hvx ⟨_, _, _, rfl, hcap⟩ _ hobj htx, fun _ _ => rfl, Nat.le_refl _⟩
            · rename_i y zs
              split at ha
              · rename_i hroom
                simp at ha
                obtain ⟨rfl, rfl⟩ := ha
                obtain ⟨a, cap, rfl, hcap, hclip⟩ := Rep.slice_form hvs.toT
                have hyse : elemsOf h size (.t (.sl true k ys)) = some (ys.map .t) := by
                  cases ys with
                  | nil => simp [elemsOf]
                  | cons y0 ys0 =>
                    have : k = size := by simpa using hroom.2
                    simp [elemsOf, this]
                have hd := append_new (ys := ys.map .t) (ty := ty) (h := h) hg ht hu hs hb hb0 hz hyse hxs hvs hvx (fun base cap' e => by
                  simp at e
                  rw [← e.2, hclip rfl]; simp) ⟨a, cap, by simp⟩ (by simpa using hroom.1) (hn (by simp)) _ hobj hts htx
                refine ⟨by simpa using hd, fun o ho => append_new_get h _ _ o ho, by simp⟩
              · simp at ha
          · -- a slice of an object
            rename_i o e i len k clip
            split at ha
            · simp at ha
              obtain ⟨rfl, rfl⟩ := ha
              obtain ⟨a, cap, rfl, hcap, _⟩ := ms_form hvs
              exact ⟨append_none hg ht hu hs hxs hvs hvx ⟨_, _, _, rfl, hcap⟩ _ hobj htx, fun _ _ => rfl, Nat.le_refl _⟩
            · rename_i y zs
              split at ha
              · rename_i k2 elems mr ho
                split at ha
                · rename_i hcond
                  obtain ⟨hroom, rfl, hk2, hm, hil, hel⟩ := hcond
                  split at ha
                  · rename_i hcl
                    subst hcl
                    simp at ha
                    obtain ⟨rfl, rfl⟩ := ha
                    obtain ⟨a, cap, rfl, hcap, hclip⟩ := ms_form hvs
                    have hlen : ((elems.drop i).take len).length = len := by simp; omega
                    have hyse : elemsOf h k (.ms o e i len k true) = some ((elems.drop i).take len) := by
                      simp [elemsOf, ho, hm, hel, hil]
                    have hd := append_new (ys := (elems.drop i).take len) (ty := ty) (h := h) hg ht hu hs hb hb0 hz hyse hxs hvs hvx (fun base cap' e' => by
                      simp at e'
                      rw [← e'.2.2, hclip rfl, hlen]; simp) ⟨a, cap, by rw [hlen]⟩ (by rw [hlen]; simpa using hroom) (hn (by simp)) _ hobj hts htx
                    rw [hlen] at hd
                    refine ⟨by simpa using hd, fun o ho => append_new_get h _ _ o ho, by simp⟩
                  · rename_i hcl
                    have hcl' : clip = false := by simpa using hcl
                    subst hcl'
                    split at ha
                    · rename_i hend
                      obtain ⟨rfl, rfl, hee⟩ := hend
                      simp at ha
                      obtain ⟨rfl, rfl⟩ := ha
                      subst hee
                      have hd := append_grow (ty := ty) hg ht hu hs hb hb0 hz ho hm hxs (by simp) hvs hvx (by simpa using hroom) _ hobj (hts o (by simp [objsOf])) htx hk2
                      refine ⟨by simpa using hd, fun o' ho' => ?_, by simp⟩
                      rw [List.getElem?_set, if_neg]
                      rintro rfl
                      exact ho' (.inl (hts _ (by simp [objsOf])))
                    · simp at ha
                · simp at ha
              · simp at ha
          · simp at ha
      · simp at ha
    · simp at ha
  · simp at ha


theorem wrote_same {w : World} {b off : Nat} : wrote w b off [] = w := rfl

theorem aCopy_done [Cp] {t ty : TypeId} {at_ : Array TypeId} {d x v : AV} {vd vx : Value} (hg : GInv Z D β w) (ha : aCopy P t d x h = some (v, h')) (hat : at_[0]? = some t) (hvd : Rep D β w vd d) (hvx : Rep D β w vx x)
    (hobj : ∀ (o : Nat) y, o ∈ objsOf d ++ objsOf x → h[o]? = some y → ObjOk D β w o y) :
    Done Z D β w h' (stepS (objsOf d ++ objsOf x) h h') v ((do pure (Next.value (← Builtin.copy_ at_ ty #[vd, vx])) : Sem Next).run P w) ∧
    (∀ o : Nat, ¬ stepS (objsOf d ++ objsOf x) h h' o → h'[o]? = h[o]?) ∧ h.length ≤ h'.length := by
  unfold aCopy at ha
  split at ha
  · rename_i elem ht
    split at ha
    · rename_i size hs
      split at ha
      · rename_i xs hxs
        by_cases hz : size = 0
        · simp [hz] at ha
        · rw [if_neg hz] at ha
          obtain ⟨c2, l2, r2, f2, s2⟩ := run_elems (P := P) hxs hvx (fun o y ho hy => hobj o y (List.mem_append_right _ ho) hy)
          have nothing : ∀ a cap, vd = .slice a 0 cap → v = .t (.sc (.int .i64 0)) → h' = h →
              Done Z D β w h' (stepS (objsOf d ++ objsOf x) h h') v ((do pure (Next.value (← Builtin.copy_ at_ ty #[vd, vx])) : Sem Next).run P w) ∧
              (∀ o : Nat, ¬ stepS (objsOf d ++ objsOf x) h h' o → h'[o]? = h[o]?) ∧ h.length ≤ h'.length := by
            intro a cap e1 e2 e3
            subst e1; subst e2; subst e3
            have hf : (Builtin.firstCells size 0 vx).run P w = .ok #[] w := by
              cases vx with
              | slice a' l' c' => cases a' <;> simp [Builtin.firstCells, loadCells, loadCellsFrom, pure, Sem.run]
              | string s => simp [Builtin.firstCells, pure, Sem.run]
              | _ => simp [Builtin.lenOf, stuck, Sem.run] at l2
            have hrun : (Builtin.copy_ at_ ty #[.slice a 0 cap, vx]).run P w = .ok (.int .i64 0) w := by
              cases a with
              | none => simp [Builtin.copy_, hat, run_underlying ht, Result.andThen, l2, run_sizeOf hs, hf, goInt]
              | some a => simp [Builtin.copy_, hat, run_underlying ht, Result.andThen, l2, run_sizeOf hs, hf, goInt, storeCells]
            have hrun' : (do pure (Next.value (← Builtin.copy_ at_ ty #[.slice a 0 cap, vx])) : Sem Next).run P w = .ok (.value (.int .i64 0)) w := by
              simp only [Sem.run_bind, hrun, Result.andThen, Sem.run_pure]
            rw [hrun']
            exact ⟨Done.pure hg (.t _ _ (.sc _ rfl)) (fun o y ho hy => by
              rcases ho with ho | ho
              · exact hobj o y ho hy
              · omega), fun _ _ => rfl, Nat.le_refl _⟩
          split at ha
          · rename_i o e i len k clip
            split at ha
            · rename_i k2 elems mr ho
              split at ha
              · rename_i hcond
                obtain ⟨he, hil, rfl, hk2, hm⟩ := hcond
                subst hk2
                simp at ha
                obtain ⟨rfl, rfl⟩ := ha
                have holt : o < h.length := (List.getElem?_eq_some_iff.1 ho).1
                have hto : o ∈ objsOf (.ms o e i len k2 clip) ++ objsOf x := List.mem_append_left _ (by simp [objsOf])
                have hrok : RowOk D β w o k2 elems mr := hobj o _ hto ho
                have hmin : min xs.length len ≤ xs.length := Nat.min_le_left _ _
                have hmin2 : min xs.length len ≤ len := Nat.min_le_right _ _
                obtain ⟨c2, l2, r2, f2, s2⟩ := run_elems_first (P := P) hxs hvx hmin (fun o y ho hy => hobj o y (List.mem_append_right _ ho) hy)
                have hnl : (xs.take (min xs.length len)).length = min xs.length len := by simp
                have hElen : (elems.take i ++ (xs.take (min xs.length len) ++ elems.drop (i + min xs.length len))).length = elems.length := by simp; omega
                have hEget : ∀ j : Nat, (elems.take i ++ (xs.take (min xs.length len) ++ elems.drop (i + min xs.length len)))[j]? = if i ≤ j ∧ j < i + min xs.length len then (xs.take (min xs.length len))[j - i]? else elems[j]? := by
                  intro j
                  by_cases hj : j < i
                  · rw [if_neg (by omega), List.getElem?_append_left (by simp; omega), List.getElem?_take, if_pos hj]
                  · have hl1 : (elems.take i).length = i := by simp; omega
                    rw [List.getElem?_append_right (by omega), hl1]
                    by_cases hj2 : j < i + min xs.length len
                    · rw [if_pos (by omega), List.getElem?_append_left (by omega)]
                    · rw [if_neg (by omega), List.getElem?_append_right (by omega), hnl, List.getElem?_drop]
                      congr 1; omega
                have other : ∀ (w' : World), Frm (fun q => q = o) D β w D β w' → RowOk D β w' o k2 (elems.take i ++ (xs.take (min xs.length len) ++ elems.drop (i + min xs.length len))) e →
                    ∀ (o' : Nat) y, stepS (objsOf (.ms o e i len k2 clip) ++ objsOf x) h (h.set o (.row k2 (elems.take i ++ (xs.take (min xs.length len) ++ elems.drop (i + min xs.length len))) e)) o' →
                      (h.set o (.row k2 (elems.take i ++ (xs.take (min xs.length len) ++ elems.drop (i + min xs.length len))) e))[o']? = some y → ObjOk D β w' o' y := by
                  intro w' hfr hro o' y ho' hy
                  by_cases e0 : o' = o
                  · subst e0
                    simp [holt] at hy
                    subst hy
                    exact hro
                  · rw [List.getElem?_set, if_neg (Ne.symm e0)] at hy
                    rcases ho' with ho' | ⟨h1, h2⟩
                    · exact (hobj o' y ho' hy).frame hfr e0
                    · simp at h2; omega
                have hloc : ∀ o' : Nat, ¬ stepS (objsOf (.ms o e i len k2 clip) ++ objsOf x) h (h.set o (.row k2 (elems.take i ++ (xs.take (min xs.length len) ++ elems.drop (i + min xs.length len))) e)) o' →
                    (h.set o (.row k2 (elems.take i ++ (xs.take (min xs.length len) ++ elems.drop (i + min xs.length len))) e))[o']? = h[o']? := by
                  intro o' ho'
                  rw [List.getElem?_set, if_neg]
                  rintro rfl
                  exact ho' (.inl hto)
                have hsizes : ∀ (j : Nat) y, (elems.take i ++ (xs.take (min xs.length len) ++ elems.drop (i + min xs.length len)))[j]? = some y → y.cells.length = k2 := by
                  intro j y hy
                  rw [hEget j] at hy
                  split at hy
                  · exact f2.2.1 _ y hy
                  · exact hrok.1 j y hy
                rcases ms_inv hvd with ⟨hl, a, hv⟩ | ⟨b, cap, n, hbb, hle, hcapl, hclip, hn, hsz, hv⟩
                · -- nothing to copy to
                  subst hl
                  subst hv
                  have hf0 : (Builtin.firstCells k2 0 vx).run P w = .ok c2 w := by simpa using r2
                  have hc20 : c2 = #[] := by
                    have : c2.size = 0 := by simpa using s2
                    exact Array.eq_empty_of_size_eq_zero this
                  subst hc20
                  have hrun : (do pure (Next.value (← Builtin.copy_ at_ ty #[.slice a 0 0, vx])) : Sem Next).run P w = .ok (.value (.int .i64 0)) w := by
                    cases a with
                    | none => simp [Builtin.copy_, hat, run_underlying ht, Result.andThen, l2, run_sizeOf hs, hf0, goInt]
                    | some a => simp [Builtin.copy_, hat, run_underlying ht, Result.andThen, l2, run_sizeOf hs, hf0, goInt, storeCells]
                  rw [hrun]
                  have hEe : elems.take i ++ (xs.take (min xs.length 0) ++ elems.drop (i + min xs.length 0)) = elems := by simp
                  refine ⟨⟨_, w, D, β, rfl, .t _ _ (by simpa using RepT.sc _ rfl), .refl D β w, hg, other w (.refl D β w) ?_, fun o e y hy => .inl ⟨e, y, hy⟩⟩, hloc, by simp⟩
                  rw [hEe]
                  exact ⟨hrok.1, fun e' b k' hb' => let ⟨q1, q2, q3, q4⟩ := hrok.2 e' b k' hb'; ⟨q1, q2, q3, fun hle => q4 (by omega)⟩⟩
                · subst hv
                  obtain ⟨hD, _, _, hcc⟩ := hrok.2 _ _ _ hbb
                  obtain ⟨c, ty', h1, h2, h3⟩ := hcc hm
                  have g4 : c2.toList.length = min xs.length len * k2 := by simpa using s2
                  have hbd : i * k2 + c2.toList.length ≤ c.size := by
                    have g1 : (i + min xs.length len) * k2 ≤ e * k2 := Nat.mul_le_mul_right k2 (by omega)
                    have g2 : (i + min xs.length len) * k2 = i * k2 + min xs.length len * k2 := Nat.add_mul _ _ _
                    omega
                  have hokc : ∀ v ∈ c2.toList, okCell v = true := by
                    intro v hv
                    obtain ⟨j, hj, rfl⟩ := List.getElem_of_mem hv
                    rw [g4] at hj
                    have hdiv : j / k2 < min xs.length len := (Nat.div_lt_iff_lt_mul (by omega)).2 hj
                    have hmod : j % k2 < k2 := Nat.mod_lt _ (by omega)
                    have hxd : (xs.take (min xs.length len))[j / k2]? = some (xs.take (min xs.length len))[j / k2] := by rw [List.getElem?_eq_getElem (by rw [hnl]; exact hdiv)]
                    have hcl := f2.2.1 _ _ hxd
                    obtain ⟨v, p1, p2, _⟩ := f2.2.2 _ _ (j % k2) _ hxd (List.getElem?_eq_getElem (by rw [hcl]; exact hmod))
                    have hjj : j / k2 * k2 + j % k2 = j := by rw [Nat.mul_comm]; exact Nat.div_add_mod j k2
                    rw [hjj] at p1
                    have this : c2.toList[j]? = some v := by simpa using p1
                    have hv' : c2.toList[j] = v := (List.getElem?_eq_some_iff.1 this).2
                    rw [hv']; exact p2
                  have hst := run_storeCells (P := P) c2.toList w b (i * k2) 0 c ty' h1 (by simpa using hbd) hokc
                  simp only [Nat.add_zero] at hst
                  have hmin3 : Nat.min xs.length len = min xs.length len := rfl
                  have hrun : (do pure (Next.value (← Builtin.copy_ at_ ty #[.slice (some ⟨b, i * k2, none⟩) len cap, vx])) : Sem Next).run P w = .ok (.value (.int .i64 (min xs.length len : Nat))) (wrote w b (i * k2) c2.toList) := by
                    simp [Builtin.copy_, hat, run_underlying ht, Result.andThen, l2, run_sizeOf hs, r2, goInt, hst, hmin3]
                  rw [hrun]
                  obtain ⟨fw, gw⟩ := frm_wrote (S := fun q => q = o) hg (off := i * k2) (vs := c2.toList) rfl hbb hD h1 hbd
                  obtain ⟨e1, e2, e3, e4, c', e5, e6, e7⟩ := wrote_facts c2.toList w b (i * k2) c ty' (0, 0) h1 hbd
                  refine ⟨⟨_, _, D, β, rfl, .t _ _ (.sc _ rfl), fw.mono (fun q hq => by subst hq; exact .inl hto), gw, other _ fw ⟨hsizes, fun e' b' k' hb' => ?_⟩, fun o e y hy => .inl ⟨e, y, hy⟩⟩, hloc, by simp⟩
                  obtain ⟨q1, q2, q3, q4⟩ := hrok.2 e' b' k' hb'
                  refine ⟨q1, q2, by rw [hElen]; exact q3, fun hle' => ?_⟩
                  have hee : e' = e := by omega
                  subst hee
                  rw [hbb] at hb'
                  cases hb'
                  refine ⟨c', ty', e5, by rw [e6]; exact h2, fun j y m tt hj hy htt => ?_⟩
                  have hmk : m < k2 := by rw [← hsizes j y hy]; exact (List.getElem?_eq_some_iff.1 htt).1
                  rw [hEget j] at hy
                  rw [e7, g4]
                  split at hy
                  · rename_i hij
                    have g1 : j * k2 = i * k2 + (j - i) * k2 := by rw [← Nat.add_mul]; congr 1; omega
                    have g2 : (j - i + 1) * k2 ≤ min xs.length len * k2 := Nat.mul_le_mul_right k2 (by omega)
                    have g3 : (j - i + 1) * k2 = (j - i) * k2 + k2 := Nat.succ_mul _ _
                    rw [if_pos (by omega)]
                    obtain ⟨v, p1, p2, p3⟩ := f2.2.2 _ y m tt hy htt
                    have g5 : j * k2 + m - i * k2 = (j - i) * k2 + m := by omega
                    rw [g5]
                    exact ⟨v, by simpa using p1, p2, p3.mono fw.ext⟩
                  · rename_i hij
                    have hne : ¬ (i * k2 ≤ j * k2 + m ∧ j * k2 + m < i * k2 + min xs.length len * k2) := by
                      by_cases hji : j < i
                      · have g1 := Nat.mul_le_mul_right k2 (show j + 1 ≤ i from hji)
                        have g2 : (j + 1) * k2 = j * k2 + k2 := Nat.succ_mul j k2
                        omega
                      · have g1 := Nat.mul_le_mul_right k2 (show i + min xs.length len ≤ j by omega)
                        have g2 : (i + min xs.length len) * k2 = i * k2 + min xs.length len * k2 := Nat.add_mul _ _ _
                        omega
                    rw [if_neg hne]
                    obtain ⟨v, p1, p2, p3⟩ := h3 j y m tt hj hy htt
                    exact ⟨v, p1, p2, p3.mono fw.ext⟩
              · simp at ha
            · simp at ha
          · simp at ha
            obtain ⟨rfl, rfl⟩ := ha
            obtain ⟨rfl, _⟩ := hvd.toT.sc_eq
            exact nothing none 0 rfl rfl rfl
          · simp at ha
            obtain ⟨rfl, rfl⟩ := ha
            obtain ⟨a, cap, rfl, _, _⟩ := Rep.slice_form hvd.toT
            exact nothing a cap rfl rfl rfl
          · simp at ha
      · simp at ha
    · simp at ha
  · simp at ha

end Go.Abs

/- Literals of slices, make, maps. -/
namespace Go.Abs
open Go

variable {P : Program} {Z : Base} {D : Dom} {β : Bet} {w : World} {h h' : Heap}

theorem fillElems_rel {size : Nat} (qs : List (Nat × AV)) : ∀ (ps : List (Nat × Value)) (C : Array Value) (E E' : List AV), PartsRep D β w ps qs → C.size = E.length * size → FlatRep D β w size C E →
    fillElems size E qs = some E' → ∃ C', Instr.fill (fun i => some (i * size, size)) C ps = some C' ∧ C'.size = E'.length * size ∧ E'.length = E.length ∧ FlatRep D β w size C' E' := by
  induction qs with
  | nil =>
    intro ps C E E' hp hl hr hf
    cases ps with
    | nil => simp [fillElems] at hf; subst hf; exact ⟨C, rfl, hl, rfl, hr⟩
    | cons p r => simp [PartsRep] at hp
  | cons q qs ih =>
    intro ps C E E' hp hl hr hf
    cases ps with
    | nil => simp [PartsRep] at hp
    | cons p ps =>
      obtain ⟨h1, h2, h3⟩ := hp.cons
      obtain ⟨i, v⟩ := p
      obtain ⟨i', x⟩ := q
      simp only at h1 h2
      subst h1
      simp only [fillElems] at hf
      by_cases hc : x.cells.length = size ∧ 0 < size ∧ i < E.length ∧ storableAll x.cells = true
      · rw [if_pos hc] at hf
        obtain ⟨hc1, hc2, hc3, hc4⟩ := hc
        have hcell := h2.cells (cells_ne_dead (by omega))
        have hsz : v.cells.size = size := by rw [hcell.1, hc1]
        have hik := Nat.mul_le_mul_right size (show i + 1 ≤ E.length from hc3)
        have hik2 : (i + 1) * size = i * size + size := Nat.succ_mul i size
        have hfold : (v.cells.zipIdx.foldl (fun cs (x : Value × Nat) => cs.setIfInBounds (i * size + x.2) x.1) C) = ((v.cells.toList.zipIdx 0).foldl (fun cs (x : Value × Nat) => cs.setIfInBounds (i * size + x.2) x.1) C) := by
          rw [← Array.foldl_toList, Array.toList_zipIdx]
        obtain ⟨g1, g2⟩ := foldl_set_list v.cells.toList 0 (i * size) C (by simp [hsz]; omega)
        obtain ⟨C', e1, e2, e3, e4⟩ := ih ps (v.cells.zipIdx.foldl (fun cs (x : Value × Nat) => cs.setIfInBounds (i * size + x.2) x.1) C) (E.set i x) E' h3
          (by rw [hfold, g1]; simpa using hl)
          ⟨by rw [hfold, g1]; simp [hl], fun j y hy => by
            rw [List.getElem?_set] at hy
            split at hy
            · simp [hc3] at hy; rw [← hy]; exact hc1
            · exact hr.2.1 j y hy, fun j y m t hy ht => by
            rw [hfold, g2]
            rw [List.getElem?_set] at hy
            split at hy
            · rename_i hij
              subst hij
              simp [hc3] at hy
              subst hy
              have hm : m < size := by rw [← hc1]; exact (List.getElem?_eq_some_iff.1 ht).1
              rw [if_pos (by simp [hsz]; omega)]
              have hlt : m < v.cells.size := by omega
              have hget : v.cells[m]? = some v.cells[m] := by simp [hlt]
              have hrp := hcell.2 m _ t hget ht
              have hidx : i * size + m - (i * size + 0) = m := by omega
              rw [hidx]
              exact ⟨v.cells[m], by rw [← Array.getElem?_toList] at hget; exact hget, storable_ok (storableAll_get hc4 ht) hrp, hrp⟩
            · rename_i hij
              have hm : m < size := by rw [← hr.2.1 j y hy]; exact (List.getElem?_eq_some_iff.1 ht).1
              have hne : ¬ (i * size + 0 ≤ j * size + m ∧ j * size + m < i * size + 0 + v.cells.toList.length) := by
                simp only [Array.length_toList, hsz]
                rcases Nat.lt_or_gt_of_ne hij with hlt | hgt
                · have := Nat.mul_le_mul_right size (show i + 1 ≤ j from hlt)
                  omega
                · have g3 := Nat.mul_le_mul_right size (show j + 1 ≤ i from hgt)
                  have g4 : (j + 1) * size = j * size + size := Nat.succ_mul j size
                  omega
              rw [if_neg hne]
              exact hr.2.2 j y m t hy ht⟩ hf
        refine ⟨C', ?_, e2, by simpa using e3, e4⟩
        simp only [Instr.fill]
        rw [if_neg (by simp [hsz, hl]; omega)]
        exact e1
      · simp [hc] at hf

/-- A new block of elements that are trees: a slice that is a tree. -/
theorem newTree_done [Cp] {k : Nat} {ts : List T} {c : Array Value} {ty : TypeId} (hg : GInv Z D β w) (hf : FlatRep D β w k c (ts.map .t)) :
    Done Z D β w h (stepS [] h h) (.t (.sl true k ts)) (.ok (.value (.slice (some ⟨w.heap.size, 0, none⟩) ts.length ts.length)) (w.alloc (.cells c ty (0, 0)))) := by
  have f : Frm (stepS [] h h) D β w (dAdd D w.heap.size) β (w.alloc (.cells c ty (0, 0))) := frm_alloc_D hg _
  refine ⟨_, _, dAdd D w.heap.size, β, rfl, .t _ _ ?_, f, (hg.alloc _ (fun _ _ _ h => by cases h; rfl)).dAdd (by simp) hg.size0 (fun ds hx => by rw [heap_alloc_new] at hx; cases hx), fun o y hy => ?_, fun o e y hy => .inl ⟨e, y, hy⟩⟩
  · have hcells : ∀ (i : Nat) x (j : Nat) t, ts[i]? = some x → x.cells[j]? = some t → ∃ v, c[i * k + j]? = some v ∧ okCell v = true ∧ RepT D w v t := by
      intro i x j t hx ht
      obtain ⟨v, p1, p2, p3⟩ := hf.2.2 i (.t x) j (.t t) (by simp [hx]) (by rw [tcells]; simp [ht])
      exact ⟨v, p1, p2, p3.toT⟩
    have hk : ∀ (i : Nat) x, ts[i]? = some x → x.cells.length = k := by
      intro i x hx
      have := hf.2.1 i (.t x) (by simp [hx])
      rw [tcells] at this; simpa using this
    refine .sl _ 0 _ _ true k ts (.inr rfl) rfl (Nat.le_refl _) (fun _ => rfl) hk (fun j => (c[j]?).getD default) (fun j hj => ?_) (fun i x j t hx ht => ?_)
    · have hlt : j < c.size := by have := hf.1; simp at this; omega
      by_cases hk0 : k = 0
      · subst hk0; simp at hj
      · have hdiv : j / k < ts.length := (Nat.div_lt_iff_lt_mul (by omega)).2 hj
        have hmod : j % k < k := Nat.mod_lt _ (by omega)
        have hxd : ts[j / k]? = some ts[j / k] := by simp [hdiv]
        have hcl := hk _ _ hxd
        obtain ⟨v, p1, p2, _⟩ := hcells _ _ (j % k) _ hxd (List.getElem?_eq_getElem (by rw [hcl]; exact hmod))
        have hjj : j / k * k + j % k = j := by rw [Nat.mul_comm]; exact Nat.div_add_mod j k
        rw [hjj] at p1
        simp only [p1, Option.getD_some]
        refine ⟨?_, p2⟩
        have e := heap_alloc_new (w := w) (.cells c ty (0, 0))
        simp only [World.cell?, e, Nat.zero_add]
        simpa using p1
    · obtain ⟨v, p1, p2, p3⟩ := hcells i x j t hx ht
      simp only [p1, Option.getD_some]
      exact p3.mono f.ext.sub f.ext.same
  · rcases hy with hy | ⟨h1, h2⟩
    · simp at hy
    · omega

theorem zeros_flat {elem : TypeId} {size len : Nat} {z : Value} (hok : okVal z = true) (hk : (AV.t (ofVal z)).cells.length = size) (hs : storableAll (AV.t (ofVal z)).cells = true) (h0 : size ≠ 0) :
    FlatRep D β w size ((Array.range (len * size)).map (z.cells[· % z.cells.size]!)) (List.replicate len (.t (ofVal z))) := by
  have hzs : z.cells.size = size := by
    have := (Rep.cells (D := D) (β := β) (w := w) (.t _ _ (okVal_rep hok)) (by simp)).1
    rw [this, hk]
  refine FlatRep.zeros hok hk hs (Nat.le_refl len) _ (by simp) (fun i hi => ?_) h0
  simp [hi, hzs]

theorem buildSlice_done {t : TypeId} {len size : Nat} {elem : TypeId} {z : T} {qs : List (Nat × AV)} {ps : Array (Nat × Value)} {elems : List AV} (hg : GInv Z D β w) (ht : typ P t = some (.slice elem)) (hs : szOf P elem = some size) (hz : zeroOf P elem = some z)
    (hc : ¬ (size = 0 ∨ 16777216 < len * size ∨ (AV.t z).cells.length ≠ size ∨ storableAll (AV.t z).cells = false)) (hf : fillElems size (List.replicate len (.t z)) qs = some elems) (hp : PartsRep D β w ps.toList qs) :
    ∃ c, (Instr.buildSlice t len ps).run P w = .ok (.slice (some ⟨w.heap.size, 0, none⟩) len len) (w.alloc (.cells c elem (0, 0))) ∧ FlatRep D β w size c elems ∧ elems.length = len ∧ c.size = len * size := by
  obtain ⟨zv, hok, rfl, hzr⟩ := zeroOf_val hz
  have h0 : size ≠ 0 := fun e => hc (.inl e)
  have h1 : ¬ (len * size > 16777216) := fun e => hc (.inr (.inl e))
  have h2 : (AV.t (ofVal zv)).cells.length = size := Classical.byContradiction fun e => hc (.inr (.inr (.inl e)))
  have h3 : storableAll (AV.t (ofVal zv)).cells = true := by
    cases hst : storableAll (AV.t (ofVal zv)).cells with
    | true => rfl
    | false => exact absurd (.inr (.inr (.inr hst))) hc
  have hfl := zeros_flat (D := D) (β := β) (w := w) (elem := elem) (len := len) hok h2 h3 h0
  obtain ⟨C', e1, e2, e3, e4⟩ := fillElems_rel qs ps.toList _ _ elems hp (by simp) hfl hf
  have hl : elems.length = len := by simpa using e3
  refine ⟨C', ?_, e4, hl, by rw [e2, hl]⟩
  have h1' : ¬ (len * size > 2 ^ 24) := h1
  have hr0 : ∀ f : Nat → Value, (Array.range 0).map f = #[] := fun f => by simp
  by_cases hl0 : len * size = 0
  · have e1' : Instr.fill (fun i => some (i * size, size)) #[] ps.toList = some C' := by rw [hl0, hr0] at e1; exact e1
    simp only [Instr.buildSlice, Sem.run_bind, run_underlying ht, Result.andThen, run_sizeOf hs]
    rw [if_neg h1', if_pos hl0]
    simp only [Sem.run_bind, Sem.run_pure, Result.andThen, hl0, hr0, e1', run_newRow]
  · simp only [Instr.buildSlice, Sem.run_bind, run_underlying ht, Result.andThen, run_sizeOf hs]
    rw [if_neg h1', if_neg hl0]
    simp only [Sem.run_bind, Sem.run_pure, Result.andThen, hzr, e1, run_newRow]

theorem wrapNat {n : Nat} (h : n ≤ 9223372036854775807) : IntKind.i64.wrap (n : Int) = n := by
  simp [IntKind.wrap, IntKind.signed, IntKind.bits]
  omega

theorem makeSlice_done {t elem : TypeId} {size bytes n m : Nat} {z : T} {xl xc : AV} {vl vc : Value} (hg : GInv Z D β w) (ht : typ P t = some (.slice elem)) (hs : szOf P elem = some size) (hb : byOf P elem = some bytes) (hz : zeroOf P elem = some z)
    (hl : asNat xl = some n) (hcc : asNat xc = some m) (hvl : Rep D β w vl xl) (hvc : Rep D β w vc xc) (hcond : size ≠ 0 ∧ (AV.t z).cells.length = size ∧ storableAll (AV.t z).cells = true ∧ n ≤ m ∧ bytes * m ≤ roomB ∧ m ≤ 9223372036854775807) :
    ∃ c, (Instr.makeSlice t vl vc).run P w = .ok (.slice (some ⟨w.heap.size, 0, none⟩) n m) (w.alloc (.cells c elem (0, 0))) ∧ FlatRep D β w size c (List.replicate n (.t z)) ∧ c.size = m * size := by
  obtain ⟨h0, h1, h2, h3, h4, h5⟩ := hcond
  obtain ⟨kl, rfl⟩ := asNat_rep hvl hl
  obtain ⟨kc, rfl⟩ := asNat_rep hvc hcc
  obtain ⟨zv, hok, rfl, hzr⟩ := zeroOf_val hz
  obtain ⟨inf, hinf, hib⟩ := byOf_info hb
  have hzs : zv.cells.size = size := by
    have := (Rep.cells (D := D) (β := β) (w := w) (.t _ _ (okVal_rep hok)) (by simp)).1
    rw [this, h1]
  refine ⟨(Array.range (m * size)).map (zv.cells[· % zv.cells.size]!), ?_, FlatRep.zeros hok h1 h2 h3 _ (by simp) (fun i hi => by simp [hi, hzs]) h0, by simp⟩
  have hw1 := wrapNat (n := n) (by omega)
  have hw2 := wrapNat (n := m) h5
  have hask : ∀ (q : Nat) (w' : World), (askRoom q).run P w' = .ok () w' := by
    intro q w'
    unfold askRoom
    split <;> rfl
  have hbm : ¬ ((bytes : Int) * (m : Int) > 2 ^ 48) := by
    have : ((bytes * m : Nat) : Int) ≤ 140737488355328 := by rw [roomB] at h4; omega
    have e : ((bytes * m : Nat) : Int) = (bytes : Int) * (m : Int) := by simp
    rw [← e]; omega
  have hbad : ((decide ((m : Int) < 0) || decide ((inf.bytes : Int) * (m : Int) > 2 ^ 48)) || decide ((n : Int) < 0) || decide ((n : Int) > (m : Int))) = false := by
    rw [hib]
    simp only [Bool.or_eq_false_iff, decide_eq_false_iff_not]
    exact ⟨⟨⟨by omega, hbm⟩, by omega⟩, by omega⟩
  by_cases hl0 : m * size = 0
  · have hr0 : ∀ f : Nat → Value, (Array.range 0).map f = #[] := fun f => by simp
    simp only [Instr.makeSlice, Sem.run_bind, run_underlying ht, Result.andThen, asInt, run_asIntOf, Sem.run_pure, run_typeInfo hinf, hw1, hw2]
    rw [if_neg (by simpa using hbad)]
    simp only [Sem.run_bind, hask, Result.andThen, run_sizeOf hs, Int.toNat_natCast, hl0, if_true, Sem.run_pure, hr0, run_newRow]
  · simp only [Instr.makeSlice, Sem.run_bind, run_underlying ht, Result.andThen, asInt, run_asIntOf, Sem.run_pure, run_typeInfo hinf, hw1, hw2]
    rw [if_neg (by simpa using hbad)]
    simp only [Sem.run_bind, hask, Result.andThen, run_sizeOf hs, Int.toNat_natCast, hl0, if_false, Sem.run_pure, hzr, run_newRow]

end Go.Abs

/- Maps. -/
namespace Go.Abs
open Go

variable {P : Program} {Z : Base} {D : Dom} {β : Bet} {w : World} {h h' : Heap}

theorem keyOk_run : ∀ (d : Nat) (t : TypeId) (x : T) (v : Value) (empty : Bool), keyOk P d t x = true → RepT D w v x → ∀ d', d ≤ d' → (Instr.checkKey empty d' t v).run P w = .ok () w := by
  intro d
  induction d with
  | zero => intro t x v empty h; simp [keyOk] at h
  | succ d ih =>
    intro t x v empty h hx d' hd
    obtain ⟨d', rfl⟩ : ∃ n, d' = n + 1 := ⟨d' - 1, by omega⟩
    have hd' : d ≤ d' := by omega
    simp only [keyOk] at h
    split at h
    · rename_i ht
      simp only [Instr.checkKey, Sem.run_bind, run_underlying ht, Result.andThen]
      cases v <;> rfl
    · rename_i ht
      simp only [Instr.checkKey, Sem.run_bind, run_underlying ht, Result.andThen]
      cases v <;> rfl
    · rename_i ht
      simp only [Instr.checkKey, Sem.run_bind, run_underlying ht, Result.andThen]
      cases v <;> rfl
    · rename_i fs xs ht
      cases hx with
      | agg cx _ hlx hrx =>
        simp only [Instr.checkKey, Sem.run_bind, run_underlying ht, Result.andThen]
        rw [← Array.forIn_toList]
        generalize fs.toList = fl at h
        clear ht
        induction fl with
        | nil => simp
        | cons f r ihf =>
          simp only [keyFields, Bool.and_eq_true] at h
          obtain ⟨h1, h2⟩ := h
          have ih2 := ihf h2
          simp only [List.forIn_cons, Sem.run_bind]
          by_cases hn : f.name = "_"
          · simp only [hn, ne_eq, not_true_eq_false, if_false, Sem.run_pure, Result.andThen]
            exact ih2
          · rw [if_neg hn] at h1
            split at h1
            · rename_i px hpx
              obtain ⟨v1, r1, q1⟩ := run_partT (P := P) hpx hlx hrx
              have he := ih _ _ _ empty h1 q1 d' hd'
              simp only [ne_eq, hn, not_false_eq_true, if_true, Sem.run_bind, r1, Result.andThen, he, Sem.run_pure]
              exact ih2
            · simp at h1
    · simp at h

/-- A map's entries in memory and in the evaluator: the same keys. -/
def KeysEq (mes : List MapEntry) (es : List (Value × AV)) : Prop := mes.map (·.key) = es.map (·.1)

theorem KeysEq.cons {m : MapEntry} {mes : List MapEntry} {e : Value × AV} {es : List (Value × AV)} (h : KeysEq (m :: mes) (e :: es)) : m.key = e.1 ∧ KeysEq mes es := by
  simpa [KeysEq] using h

/-- Where the key is found. -/
def Found (mes : List MapEntry) (i0 : Nat) (k : Value) : Option Nat → Option (Nat × Value) → Prop
  | none, none => True
  | some i, some (j, v) => i = j ∧ i0 ≤ i ∧ ∃ m, mes[i - i0]? = some m ∧ m.val = v ∧ Instr.sameBits 10000 m.key k = true
  | _, _ => False

theorem Found.cons {mes : List MapEntry} {i0 : Nat} {k : Value} {r : Option Nat} {q : Option (Nat × Value)} (m : MapEntry) (h : Found mes (i0 + 1) k r q) : Found (m :: mes) i0 k r q := by
  cases r with
  | none => cases q with
    | none => trivial
    | some p => exact h.elim
  | some i => cases q with
    | none => exact h.elim
    | some p =>
      obtain ⟨j, v⟩ := p
      obtain ⟨h1, h2, m', h3, h4, h5⟩ := h
      refine ⟨h1, by omega, m', ?_, h4, h5⟩
      have : i - i0 = (i - (i0 + 1)) + 1 := by omega
      rw [this]; simpa using h3

theorem findAsking_run {kt : TypeId} {k : Value} (hk : okVal k = true) : ∀ (es : List (Value × AV)) (mes : List MapEntry) (i0 : Nat) (r : Option Nat), KeysEq mes es → findE P kt k es i0 = some r →
    ∃ q, (Instr.findAsking kt k mes i0).run P w = .ok q w ∧ Found mes i0 k r q := by
  intro es
  induction es with
  | nil =>
    intro mes i0 r hk' hf
    cases mes with
    | nil => simp [findE] at hf; subst hf; exact ⟨none, rfl, trivial⟩
    | cons m mes => simp [KeysEq] at hk'
  | cons e es ih =>
    intro mes i0 r hk' hf
    cases mes with
    | nil => simp [KeysEq] at hk'
    | cons m mes =>
      obtain ⟨h1, h2⟩ := hk'.cons
      obtain ⟨k', y⟩ := e
      simp only at h1
      simp only [findE] at hf
      by_cases hok : okVal k' = true
      · rw [if_pos hok] at hf
        have heq : ∀ b, eqIn P 20 kt (ofVal k) (ofVal k') = some b → (Op.equal kt k m.key).run P w = .ok b w := by
          intro b hb
          rw [h1]
          exact eqIn_run (D := fun _ => True) 20 kt _ _ b k k' hb (okVal_rep hk) (okVal_rep hok) _ (by decide)
        split at hf
        · rename_i hb
          by_cases hsb : Instr.sameBits 10000 k' k = true
          · simp [hsb] at hf
            subst hf
            refine ⟨some (i0, m.val), ?_, rfl, Nat.le_refl _, m, by simp, rfl, by rw [h1]; exact hsb⟩
            simp [Instr.findAsking, heq true hb, Result.andThen]
          · simp [hsb] at hf
        · rename_i hb
          obtain ⟨q, g1, g2⟩ := ih mes (i0 + 1) r h2 hf
          exact ⟨q, by simp [Instr.findAsking, heq false hb, Result.andThen, g1], g2.cons m⟩
        · simp at hf
      · simp [hok] at hf

theorem findKey_run {kt : TypeId} {k : Value} {d : TypeDesc} (hk : okVal k = true) (hd : typ P kt = some d) {es : List (Value × AV)} {mes : List MapEntry} {r : Option Nat} (hke : KeysEq mes es) (hf : findE P kt k es 0 = some r) :
    ∃ q, (Instr.findKey kt k mes).run P w = .ok q w ∧ Found mes 0 k r q := by
  cases hn : Instr.findNow d k mes 0 with
  | none =>
    obtain ⟨q, g1, g2⟩ := findAsking_run (w := w) hk es mes 0 r hke hf
    exact ⟨q, by simp [Instr.findKey, run_underlying hd, Result.andThen, hn, g1], g2⟩
  | some q =>
    refine ⟨q, by simp [Instr.findKey, run_underlying hd, Result.andThen, hn], ?_⟩
    -- what the short way finds is what the long way would find
    have key : ∀ (es : List (Value × AV)) (mes : List MapEntry) (i0 : Nat) (r : Option Nat) (q : Option (Nat × Value)), KeysEq mes es → findE P kt k es i0 = some r → Instr.findNow d k mes i0 = some q → Found mes i0 k r q := by
      intro es
      induction es with
      | nil =>
        intro mes i0 r q hke hf hn
        cases mes with
        | nil => simp [findE] at hf; simp [Instr.findNow] at hn; subst hf; subst hn; trivial
        | cons m mes => simp [KeysEq] at hke
      | cons e es ih =>
        intro mes i0 r q hke hf hn
        cases mes with
        | nil => simp [KeysEq] at hke
        | cons m mes =>
          obtain ⟨h1, h2⟩ := hke.cons
          obtain ⟨k', y⟩ := e
          simp only at h1
          simp only [findE] at hf
          by_cases hok : okVal k' = true
          · rw [if_pos hok] at hf
            simp only [Instr.findNow] at hn
            have same : ∀ b, Instr.sameNow d k m.key = some b → ∀ b', eqIn P 20 kt (ofVal k) (ofVal k') = some b' → b = b' := by
              intro b hb b' hb'
              rw [h1] at hb
              unfold Instr.sameNow at hb
              split at hb
              · simp only [ofVal, eqIn, hd] at hb'
                split at hb
                · rename_i hjj
                  rw [if_pos hjj] at hb'
                  rw [← Option.some.inj hb, ← Option.some.inj hb']
                · simp at hb
              · simp only [ofVal, eqIn, hd] at hb'
                simp at hb hb'; rw [← hb, ← hb']
              · simp only [ofVal, eqIn, hd] at hb'
                simp at hb hb'; rw [← hb, ← hb']
              · simp at hb
            split at hn
            · rename_i hb
              simp at hn
              subst hn
              split at hf
              · by_cases hsb : Instr.sameBits 10000 k' k = true
                · simp [hsb] at hf
                  subst hf
                  exact ⟨rfl, Nat.le_refl _, m, by simp, rfl, by rw [h1]; exact hsb⟩
                · simp [hsb] at hf
              · rename_i hb'
                have := same _ hb _ hb'
                simp at this
              · simp at hf
            · rename_i hb
              split at hf
              · rename_i hb'
                have := same _ hb _ hb'
                simp at this
              · exact (ih mes (i0 + 1) r q h2 hf hn).cons m
              · simp at hf
            · simp at hn
          · simp [hok] at hf
    exact key es mes 0 r q hke hf hn

theorem keysEq_of {mes : Array MapEntry} {es : List (Value × AV)} (hl : mes.size = es.length) (hk : ∀ (i : Nat) m kv, mes[i]? = some m → es[i]? = some kv → m.key = kv.1 ∧ Rep D β w m.val kv.2) : KeysEq mes.toList es := by
  unfold KeysEq
  apply List.ext_getElem?
  intro i
  rw [List.getElem?_map, List.getElem?_map, Array.getElem?_toList]
  by_cases hi : i < mes.size
  · have hi' : i < es.length := by omega
    have := (hk i mes[i] es[i] (by simp [hi]) (by simp [hi'])).1
    simp [hi, hi', this]
  · have hi' : ¬ i < es.length := by omega
    simp [hi, hi']

theorem keyOk_typ {d : Nat} {t : TypeId} {x : T} (h : keyOk P d t x = true) : ∃ dd, typ P t = some dd := by
  cases d with
  | zero => simp [keyOk] at h
  | succ d =>
    cases ht : typ P t with
    | none => simp [keyOk, ht] at h
    | some dd => exact ⟨dd, rfl⟩

theorem aLookup_run [Cp] {t : TypeId} {x ix y : AV} {vx vi : Value} {ok : Bool} (hl : aLookup P t x ix ok h = some y) (hx : Rep D β w vx x) (hi : Rep D β w vi ix)
    (hobj : ∀ (o : Nat) z, o ∈ objsOf x → h[o]? = some z → ObjOk D β w o z) : ∃ v, (Instr.lookup t vx vi ok).run P w = .ok v w ∧ Rep D β w v y := by
  unfold aLookup at hl
  split at hl
  · rename_i kt elem m k ht hk
    have := hi.val? hk
    subst this
    split at hl
    · rename_i es ho
      by_cases hc : (okVal vi && keyOk P 20 kt (ofVal vi)) = true
      · rw [if_pos hc] at hl
        simp at hc
        obtain ⟨hok, hko⟩ := hc
        cases hx with
        | mp _ b kk hb =>
          have hoo := hobj m _ (by simp [objsOf]) ho
          obtain ⟨_, hD, mes, clock, h1, h2, h3⟩ := hoo 0 b kk hb
          have hget : (getObj b).run P w = .ok (.map mes clock) w := by simp [getObj, Sem.run, h1]
          obtain ⟨dd, hdd⟩ := keyOk_typ hko
          have hck : ∀ e, (Instr.checkKey e 10000 kt vi).run P w = .ok () w := fun e => keyOk_run (D := D) 20 kt _ vi e hko (okVal_rep hok) 10000 (by decide)
          split at hl
          · rename_i i hfe
            obtain ⟨q, g1, g2⟩ := findKey_run (w := w) hok hdd (keysEq_of h2 h3) hfe
            split at hl
            · rename_i k0 y0 hes
              cases q with
              | none => exact g2.elim
              | some p =>
                obtain ⟨j, v⟩ := p
                obtain ⟨rfl, _, me, hme, rfl, _⟩ := g2
                have hme' : mes[i]? = some me := by simpa using hme
                have hrep := (h3 i me (k0, y0) hme' hes).2
                simp at hl
                cases ok with
                | false =>
                  simp at hl; subst hl
                  exact ⟨me.val, by simp [Instr.lookup, run_underlying ht, Result.andThen, hget, hck, g1], hrep⟩
                | true =>
                  simp at hl; subst hl
                  refine ⟨.tuple #[me.val, .bool true], by simp [Instr.lookup, run_underlying ht, Result.andThen, hget, hck, g1], ?_⟩
                  refine Rep.mkTup rfl fun i v x hv hx => ?_
                  match i, hv, hx with
                  | 0, hv, hx => simp at hv hx; subst hv; subst hx; exact hrep
                  | 1, hv, hx => simp at hv hx; subst hv; subst hx; exact .t _ _ (.sc _ rfl)
                  | n + 2, hv, hx => simp at hv
            · simp at hl
          · rename_i hfe
            obtain ⟨q, g1, g2⟩ := findKey_run (w := w) hok hdd (keysEq_of h2 h3) hfe
            cases q with
            | some p => exact g2.elim
            | none =>
              split at hl
              · rename_i z hz
                obtain ⟨zv, hzok, rfl, hzr⟩ := zeroOf_val hz
                have hrep : Rep D β w zv (.t (ofVal zv)) := .t _ _ (okVal_rep hzok)
                simp at hl
                cases ok with
                | false =>
                  simp at hl; subst hl
                  exact ⟨zv, by simp [Instr.lookup, run_underlying ht, Result.andThen, hget, hck, g1, hzr], hrep⟩
                | true =>
                  simp at hl; subst hl
                  refine ⟨.tuple #[zv, .bool false], by simp [Instr.lookup, run_underlying ht, Result.andThen, hget, hck, g1, hzr], ?_⟩
                  refine Rep.mkTup rfl fun i v x hv hx => ?_
                  match i, hv, hx with
                  | 0, hv, hx => simp at hv hx; subst hv; subst hx; exact hrep
                  | 1, hv, hx => simp at hv hx; subst hv; subst hx; exact .t _ _ (.sc _ rfl)
                  | n + 2, hv, hx => simp at hv
              · simp at hl
          · simp at hl
      · simp [hc] at hl
    · simp at hl
  · simp at hl


theorem aMapSet_done [Cp] {t : TypeId} {x ix y : AV} {vx vi vy : Value} (hg : GInv Z D β w) (hl : aMapSet P t x ix y h = some h') (hx : Rep D β w vx x) (hi : Rep D β w vi ix) (hy : Rep D β w vy y)
    (hobj : ∀ (o : Nat) z, o ∈ objsOf x → h[o]? = some z → ObjOk D β w o z) :
    Done Z D β w h' (stepS (objsOf x) h h') (.t (.sc undef)) ((do Instr.mapUpdate t vx vi vy; pure .skip : Sem Next).run P w) ∧ (∀ o : Nat, ¬ stepS (objsOf x) h h' o → h'[o]? = h[o]?) ∧ h.length ≤ h'.length := by
  unfold aMapSet at hl
  split at hl
  · rename_i kt elem m k ht hk
    have := hi.val? hk
    subst this
    split at hl
    · rename_i es ho
      by_cases hc : (okVal vi && keyOk P 20 kt (ofVal vi)) = true
      · rw [if_pos hc] at hl
        simp at hc
        obtain ⟨hok, hko⟩ := hc
        have hmlt : m < h.length := (List.getElem?_eq_some_iff.1 ho).1
        cases hx with
        | mp _ b kk hb =>
          have hoo := hobj m _ (by simp [objsOf]) ho
          obtain ⟨_, hD, mes, clock, h1, h2, h3⟩ := hoo 0 b kk hb
          have hget : (getObj b).run P w = .ok (.map mes clock) w := by simp [getObj, Sem.run, h1]
          have hset : ∀ o, (setObj b o).run P w = .ok () (w.putObj b o) := fun o => by simp [setObj, Sem.run, h1, World.putObj]
          obtain ⟨dd, hdd⟩ := keyOk_typ hko
          have hck : ∀ e, (Instr.checkKey e 10000 kt vi).run P w = .ok () w := fun e => keyOk_run (D := D) 20 kt _ vi e hko (okVal_rep hok) 10000 (by decide)
          have fin : ∀ (es' : List (Value × AV)) (mes' : Array MapEntry) (clock' : Nat), h' = h.set m (.map es') → (do Instr.mapUpdate t (.map (some b)) vi vy; pure .skip : Sem Next).run P w = .ok .skip (w.putObj b (.map mes' clock')) →
              mes'.size = es'.length → (∀ (i : Nat) q kv, mes'[i]? = some q → es'[i]? = some kv → q.key = kv.1 ∧ Rep D β w q.val kv.2) →
              Done Z D β w h' (stepS (objsOf (.mp m)) h h') (.t (.sc undef)) ((do Instr.mapUpdate t (.map (some b)) vi vy; pure .skip : Sem Next).run P w) ∧ (∀ o : Nat, ¬ stepS (objsOf (.mp m)) h h' o → h'[o]? = h[o]?) ∧ h.length ≤ h'.length := by
            intro es' mes' clock' hh hrun hsz hent
            subst hh
            rw [hrun]
            have hlt := lt_of_heap h1
            obtain ⟨f, g⟩ := frm_putObj (S := stepS (objsOf (.mp m)) h (h.set m (.map es'))) hg (y := .map mes' clock') (.inl (by simp [objsOf])) hb hD h1 (by simp) (by simp) (by simp) (by simp) (by simp)
            refine ⟨⟨_, _, D, β, rfl, rfl, f, g, fun o z hz hzz => ?_, fun o e y hy => .inl ⟨e, y, hy⟩⟩, fun o ho' => ?_, by simp⟩
            · rcases hz with hz | ⟨hz1, hz2⟩
              · simp [objsOf] at hz
                subst hz
                simp [hmlt] at hzz
                subst hzz
                intro e b' k' hb'
                obtain ⟨rfl, q1, mes0, c0, q2, _, _⟩ := hoo e b' k' hb'
                rw [hb] at hb'
                cases hb'
                exact ⟨rfl, q1, mes', clock', World.putObj_heap_same hlt, hsz, fun i q kv hq hkv => ⟨(hent i q kv hq hkv).1, (hent i q kv hq hkv).2.mono f.ext⟩⟩
              · simp at hz2; omega
            · rw [List.getElem?_set, if_neg]
              rintro rfl
              exact ho' (.inl (by simp [objsOf]))
          split at hl
          · rename_i i hfe
            simp at hl
            obtain ⟨q, g1, g2⟩ := findKey_run (w := w) hok hdd (keysEq_of h2 h3) hfe
            cases q with
            | none => exact g2.elim
            | some p =>
              obtain ⟨j, v⟩ := p
              obtain ⟨rfl, _, me, hme, rfl, hsb⟩ := g2
              have hme' : mes[i]? = some me := by simpa using hme
              have hkt : (Instr.keyThatStays me.key vi).run P w = .ok vi w := by simp [Instr.keyThatStays, hsb]
              have hilt : i < mes.size := (Array.getElem?_eq_some_iff.1 hme').1
              refine fin _ (mes.modify i fun e => { e with key := vi, val := vy }) clock hl.symm ?_ (by simp [h2]) (fun j q kv hq hkv => ?_)
              · simp [Instr.mapUpdate, run_underlying ht, Result.andThen, hget, hck, g1, hme', hkt, hset]
              · rw [Array.getElem?_modify] at hq
                rw [List.getElem?_set] at hkv
                by_cases hij : i = j
                · subst hij
                  simp [hme'] at hq
                  rw [if_pos rfl, if_pos (by omega)] at hkv
                  simp at hkv
                  subst hq; subst hkv
                  exact ⟨rfl, hy⟩
                · rw [if_neg hij] at hq hkv
                  exact h3 j q kv hq hkv
          · rename_i hfe
            simp at hl
            obtain ⟨q, g1, g2⟩ := findKey_run (w := w) hok hdd (keysEq_of h2 h3) hfe
            cases q with
            | some p => exact g2.elim
            | none =>
              refine fin _ (mes.push { key := vi, val := vy, born := clock }) (clock + 1) hl.symm ?_ (by simp [h2]) (fun j q kv hq hkv => ?_)
              · simp [Instr.mapUpdate, run_underlying ht, Result.andThen, hget, hck, g1, hset]
              · rw [Array.getElem?_push] at hq
                by_cases hj : j = mes.size
                · subst hj
                  simp at hq
                  rw [h2, List.getElem?_append_right (Nat.le_refl _)] at hkv
                  simp at hkv
                  subst hq; subst hkv
                  exact ⟨rfl, hy⟩
                · rw [if_neg hj] at hq
                  have hjlt := (Array.getElem?_eq_some_iff.1 hq).1
                  rw [List.getElem?_append_left (by omega)] at hkv
                  exact h3 j q kv hq hkv
          · simp at hl
      · simp [hc] at hl
    · simp at hl
  · simp at hl

end Go.Abs

/- One operation: what the evaluator says of it is what the model does. -/
namespace Go.Abs
open Go

variable {P : Program} {pol : Pol} {f : FuncId} {Z : Base} {D : Dom} {β : Bet} {w : World} {h h' : Heap} {ρ : Operand → AV} {ρr : Operand → Value}

def Good [Cp] (Z : Base) (D : Dom) (β : Bet) (w : World) (h h' : Heap) (tch : List Nat) (v : AV) (r : Result Next) : Prop :=
  Done Z D β w h' (stepS tch h h') v r ∧ (∀ o : Nat, ¬ stepS tch h h' o → h'[o]? = h[o]?) ∧ h.length ≤ h'.length

theorem Good.ofPure [Cp] {tch : List Nat} {v : AV} {v' : Value} {r : Result Next} (hg : GInv Z D β w) (hr : r = .ok (.value v') w) (hv : Rep D β w v' v)
    (hobj : ∀ (o : Nat) y, o ∈ tch → h[o]? = some y → ObjOk D β w o y) : Good Z D β w h h tch v r := by
  subst hr
  refine ⟨Done.pure hg hv (fun o y ho hy => ?_), fun _ _ => rfl, Nat.le_refl _⟩
  rcases ho with ho | ho
  · exact hobj o y ho hy
  · omega

theorem Good.ofEx [Cp] {tch : List Nat} {v : AV} {m : Sem Value} {r : Result Next} (hg : GInv Z D β w) (hr : r = (do pure (Next.value (← m)) : Sem Next).run P w) (hv : ∃ v', m.run P w = .ok v' w ∧ Rep D β w v' v)
    (hobj : ∀ (o : Nat) y, o ∈ tch → h[o]? = some y → ObjOk D β w o y) : Good Z D β w h h tch v r := by
  obtain ⟨v', h1, h2⟩ := hv
  refine Good.ofPure hg ?_ h2 hobj
  rw [hr]
  simp only [Sem.run_bind, h1, Result.andThen, Sem.run_pure]

theorem zipT_rep (hρ : ∀ x, Rep D β w (ρr x) (ρ x)) (ps : Array (Nat × Operand)) : PartsRep D β w (ps.map fun (i, x) => (i, ρr x)).toList (zipT ρ ps.toList) := by
  have key : ∀ l : List (Nat × Operand), PartsRep D β w (l.map fun (i, x) => (i, ρr x)) (zipT ρ l) := by
    intro l
    induction l with
    | nil => exact ⟨rfl, by simp⟩
    | cons p r ih =>
      obtain ⟨i, x⟩ := p
      refine ⟨by simpa [zipT] using ih.1, fun j a b ha hb => ?_⟩
      cases j with
      | zero => simp [zipT] at ha hb; subst ha; subst hb; exact ⟨rfl, hρ x⟩
      | succ j => exact ih.2 j a b (by simpa using ha) (by simpa [zipT] using hb)
  simpa using key ps.toList

theorem optRep_map (hρ : ∀ x, Rep D β w (ρr x) (ρ x)) (x : Option Operand) : OptRep D β w (x.map ρr) (x.map ρ) := by
  cases x with
  | none => trivial
  | some x => exact hρ x

theorem grow_none_done [Cp] {size : Nat} (hg : GInv Z D β w) (hn : ∀ e, β h.length e = none) :
    Good Z D β w h (h ++ [.row size [] 0]) [] (.ms h.length 0 0 0 size false) (.ok (.value (.slice none 0 0)) w) := by
  refine ⟨⟨_, w, D, β, rfl, .ms0 none _ _ _ _ _, .refl D β w, hg, fun o y ho hy => ?_, fun o e y hy => .inl ⟨e, y, hy⟩⟩, fun o ho => append_new_get h _ _ o ho, by simp⟩
  rcases ho with ho | ⟨h1, h2⟩
  · simp at ho
  · have e : o = h.length := by simp at h2; omega
    subst e
    rw [get_append_new] at hy
    cases hy
    exact ⟨by simp, fun e b k hb => by rw [hn] at hb; cases hb⟩

/-- A variable that holds a nil slice which will grow: two objects. -/
theorem grow_var_done [Cp] {size : Nat} {ty : TypeId} (hg : GInv Z D β w) (hn : ∀ o e, h.length ≤ o → o ≤ h.length + 1 → β o e = none) :
    Good Z D β w h (h ++ [.row size [] 0, .row 1 [.ms h.length 0 0 0 size false] 0]) [] (.ref (h.length + 1) 1 0 0)
      (.ok (.value (.pointer (some ⟨w.heap.size, 0, none⟩))) (w.alloc (.cells #[.slice none 0 0] ty (0, 0)))) := by
  have hfl : FlatRep D β w 1 #[.slice none 0 0] [.ms h.length 0 0 0 size false] := by
    have := FlatRep.one (D := D) (β := β) (w := w) (v := .slice none 0 0) (x := .ms h.length 0 0 0 size false) (.ms0 none _ _ _ _ _) rfl (by simp)
    simpa [AV.cells, Value.cells] using this
  obtain ⟨fr, g, ob⟩ := row_new (ty := ty) (n := h.length + 1) hg hfl (fun e => hn _ e (by omega) (by omega))
  have hlen : (h ++ [AObj.row size [] 0, AObj.row 1 [.ms h.length 0 0 0 size false] 0]).length = h.length + 2 := by simp
  have g0 : (h ++ [AObj.row size [] 0, AObj.row 1 [.ms h.length 0 0 0 size false] 0])[h.length]? = some (.row size [] 0) := by simp
  have g1 : (h ++ [AObj.row size [] 0, AObj.row 1 [.ms h.length 0 0 0 size false] 0])[h.length + 1]? = some (.row 1 [.ms h.length 0 0 0 size false] 0) := by simp
  refine ⟨⟨_, _, D, _, rfl, ?_, fr.mono (fun o ho => by subst ho; exact .inr ⟨by omega, by omega⟩), g, fun o y ho hy => ?_, dom_bAdd (by omega)⟩, fun o ho => ?_, by omega⟩
  · have := Rep.ref (D := D) (w := w.alloc (.cells #[.slice none 0 0] ty (0, 0))) (h.length + 1) 1 0 0 w.heap.size 1 (bAdd_same β (h.length + 1) 1 w.heap.size 1)
    simpa using this
  · rcases ho with ho | ⟨h1, h2⟩
    · simp at ho
    · have e : o = h.length ∨ o = h.length + 1 := by omega
      rcases e with rfl | rfl
      · rw [g0] at hy
        cases hy
        refine ⟨by simp, fun e b k hb => ?_⟩
        rw [bAdd_other (by omega), hn _ _ (Nat.le_refl _) (by omega)] at hb
        cases hb
      · rw [g1] at hy
        cases hy
        exact ob
  · by_cases hlt : o < h.length
    · rw [List.getElem?_append_left hlt]
    · have : h.length + 2 ≤ o := by
        rcases Nat.lt_or_ge o (h.length + 2) with h3 | h3
        · exact absurd (.inr ⟨by omega, by omega⟩) ho
        · exact h3
      have e1 : (h ++ [AObj.row size [] 0, AObj.row 1 [.ms h.length 0 0 0 size false] 0])[o]? = none := by
        rw [List.getElem?_eq_none]; omega
      have e2 : h[o]? = none := by rw [List.getElem?_eq_none]; omega
      rw [e1, e2]

theorem growRows_get {l : List (Nat × Nat)} {i : Nat} {y : AObj} (h : (growRows l)[i]? = some y) : ∃ s, y = .row s [] 0 := by
  simp only [growRows, List.getElem?_map] at h
  cases hl : l[i]? with
  | none => rw [hl] at h; simp at h
  | some p => rw [hl] at h; simp at h; exact ⟨p.2, h.symm⟩
theorem growRows_len (l : List (Nat × Nat)) : (growRows l).length = l.length := by simp [growRows]

theorem growAV_rep {vs : Array Value} : ∀ (l : List (Nat × Nat)) (n : Nat) (cs cs' : List AV), growAV n l cs = some cs' → vs.size = cs.length → (∀ (i : Nat) v t, vs[i]? = some v → cs[i]? = some t → Rep D β w v t) →
    vs.size = cs'.length ∧ ∀ (i : Nat) v t, vs[i]? = some v → cs'[i]? = some t → Rep D β w v t := by
  intro l
  induction l with
  | nil => intro n cs cs' h hl hr; simp only [growAV, Option.some.injEq] at h; subst h; exact ⟨hl, hr⟩
  | cons p r ih =>
    obtain ⟨off, s⟩ := p
    intro n cs cs' h hl hr
    simp only [growAV] at h
    split at h
    · rename_i hc
      refine ih (n + 1) _ cs' h (by simpa using hl) ?_
      intro i v t hv ht
      rw [List.getElem?_set] at ht
      split at ht
      · rename_i hi
        subst hi
        split at ht
        · cases ht
          have hrep := hr off v _ hv hc
          have e := hrep.toT.sc_eq.1
          subst e
          exact .ms0 none _ _ _ _ _
        · cases ht
      · exact hr i v t hv ht
    · cases h

/-- A variable that holds a struct of nil slices which will grow: their rows, and its own. -/
theorem grow_struct_done [Cp] {l : List (Nat × Nat)} {cs : List AV} {v : Value} {ty : TypeId} (hg : GInv Z D β w) (hr : Rep D β w v (.agg cs)) (hs : storableAll cs = true) (hn : ∀ o e, h.length ≤ o → o ≤ h.length + l.length → β o e = none) :
    Good Z D β w h (h ++ (growRows l ++ [.row cs.length [.agg cs] 0])) [] (.ref (h.length + l.length) 1 0 0)
      (.ok (.value (.pointer (some ⟨w.heap.size, 0, none⟩))) (w.alloc (.cells v.cells ty (0, 0)))) := by
  have hfl := FlatRep.one (D := D) (β := β) (w := w) hr (by simpa [AV.cells] using hs) (by simp)
  simp only [AV.cells] at hfl
  obtain ⟨fr, g, ob⟩ := row_new (ty := ty) (n := h.length + l.length) hg hfl (fun e => hn _ e (by omega) (by omega))
  have hlen : (h ++ (growRows l ++ [AObj.row cs.length [.agg cs] 0])).length = h.length + l.length + 1 := by simp [growRows_len]; omega
  have g1 : (h ++ (growRows l ++ [AObj.row cs.length [.agg cs] 0]))[h.length + l.length]? = some (.row cs.length [.agg cs] 0) := by
    rw [List.getElem?_append_right (by omega), List.getElem?_append_right (by rw [growRows_len]; omega), growRows_len]
    simp
  refine ⟨⟨_, _, D, _, rfl, ?_, fr.mono (fun o ho => by subst ho; exact .inr ⟨by omega, by omega⟩), g, fun o y ho hy => ?_, dom_bAdd (by omega)⟩, fun o ho => ?_, by omega⟩
  · have := Rep.ref (D := D) (w := w.alloc (.cells v.cells ty (0, 0))) (h.length + l.length) 1 0 0 w.heap.size cs.length (bAdd_same β (h.length + l.length) 1 w.heap.size cs.length)
    simpa using this
  · rcases ho with ho | ⟨h1, h2⟩
    · simp at ho
    · by_cases e : o = h.length + l.length
      · subst e
        rw [g1] at hy
        cases hy
        exact ob
      · have hlt : o - h.length < l.length := by omega
        rw [List.getElem?_append_right (by omega), List.getElem?_append_left (by rw [growRows_len]; omega)] at hy
        obtain ⟨s, rfl⟩ := growRows_get hy
        refine ⟨by simp, fun e' b k hb => ?_⟩
        rw [bAdd_other (by omega), hn _ _ (by omega) (by omega)] at hb
        cases hb
  · by_cases hlt : o < h.length
    · rw [List.getElem?_append_left hlt]
    · have : h.length + l.length + 1 ≤ o := by
        rcases Nat.lt_or_ge o (h.length + l.length + 1) with h3 | h3
        · exact absurd (.inr ⟨by omega, by omega⟩) ho
        · exact h3
      have e1 : (h ++ (growRows l ++ [AObj.row cs.length [.agg cs] 0]))[o]? = none := by
        rw [List.getElem?_eq_none]; omega
      have e2 : h[o]? = none := by rw [List.getElem?_eq_none]; omega
      rw [e1, e2]

theorem flagSome {x : Option AV} {h : Heap} {r : Res} (hx : (match x with | some v => some (Res.val v h) | none => none) = some r) : ∃ v, x = some v ∧ r = .val v h := by
  cases x with
  | none => simp at hx
  | some v => simp at hx; exact ⟨v, rfl, hx.symm⟩

theorem isSliceT_some {t : TypeId} (h : isSliceT P t = true) : ∃ e, typ P t = some (.slice e) := by
  unfold isSliceT at h
  split at h
  · rename_i e he; exact ⟨e, he⟩
  · simp at h

theorem sl_some {v : Value} {clip : Bool} {k : Nat} {x : T} {xs : List T} (h : RepT D w v (.sl clip k (x :: xs))) : ∃ a len cap, v = .slice (some a) len cap := by
  cases h with
  | sl b off len cap _ _ _ hD hlen hcap hclip hk c hc hr => exact ⟨_, _, _, rfl⟩

theorem ms_some {v : Value} {o e i n k : Nat} {clip : Bool} (h : Rep D β w v (.ms o e i (n + 1) k clip)) : ∃ a len cap, v = .slice (some a) len cap := by
  rcases ms_inv h with ⟨h0, _⟩ | ⟨b, cap, m, _, _, _, _, _, _, hv⟩
  · omega
  · exact ⟨_, _, _, hv⟩

theorem slice_eq_run {t e : TypeId} (ht : typ P t = some (.slice e)) (a : Option Addr) (l c : Nat) (ox oy : Operand) (op : BinOp) :
    ((eqGuard op t ox oy (.slice a l c) (.slice none 0 0)).run P w = .ok () w ∧ (binOp .eql t (.slice a l c) (.slice none 0 0)).run P w = .ok (.bool a.isNone) w ∧ (binOp .neq t (.slice a l c) (.slice none 0 0)).run P w = .ok (.bool !a.isNone) w) ∧
    ((eqGuard op t ox oy (.slice none 0 0) (.slice a l c)).run P w = .ok () w ∧ (binOp .eql t (.slice none 0 0) (.slice a l c)).run P w = .ok (.bool a.isNone) w ∧ (binOp .neq t (.slice none 0 0) (.slice a l c)).run P w = .ok (.bool !a.isNone) w) := by
  have g1 : (eqGuard op t ox oy (.slice a l c) (.slice none 0 0)).run P w = .ok () w := by
    unfold eqGuard; cases op <;> rfl
  have g2 : (eqGuard op t ox oy (.slice none 0 0) (.slice a l c)).run P w = .ok () w := by
    unfold eqGuard; cases op <;> rfl
  have gen1 : ∀ d, (Op.equalIn (d + 1) t (.slice a l c) (.slice none 0 0)).run P w = .ok a.isNone w := by
    intro d
    cases a <;> simp only [Op.equalIn, Sem.run_bind, run_underlying ht, Result.andThen] <;> rfl
  have gen2 : ∀ d, (Op.equalIn (d + 1) t (.slice none 0 0) (.slice a l c)).run P w = .ok a.isNone w := by
    intro d
    cases a <;> simp only [Op.equalIn, Sem.run_bind, run_underlying ht, Result.andThen] <;> rfl
  have q1 : (Op.equal t (.slice a l c) (.slice none 0 0)).run P w = .ok a.isNone w := gen1 9999
  have q2 : (Op.equal t (.slice none 0 0) (.slice a l c)).run P w = .ok a.isNone w := gen2 9999
  refine ⟨⟨g1, ?_, ?_⟩, g2, ?_, ?_⟩
  · simp [binOp, q1, Result.andThen]
  · simp [binOp, q1, Result.andThen]
  · simp [binOp, q2, Result.andThen]
  · simp [binOp, q2, Result.andThen]

theorem aEq_run {t : TypeId} {x y : AV} {vx vy : Value} {b : Bool} (h : aEq P t x y = some b) (hx : Rep D β w vx x) (hy : Rep D β w vy y) (op : BinOp) (ox oy : Operand) :
    (eqGuard op t ox oy vx vy).run P w = .ok () w ∧ (binOp .eql t vx vy).run P w = .ok (.bool b) w ∧ (binOp .neq t vx vy).run P w = .ok (.bool !b) w := by
  unfold aEq at h
  split at h
  · rename_i xs ys
    by_cases hgt : P.eqGuardType P.depth t = true
    · simp [hgt] at h
    · rw [if_neg hgt] at h
      have he := eqIn_run (P := P) (D := D) (w := w) 20 t _ _ b vx vy h hx.toT hy.toT 10000 (by decide)
      have hx' := hx.toT
      have hy' := hy.toT
      cases hx' with
      | agg cx _ _ _ =>
        cases hy' with
        | agg cy _ _ _ =>
          refine ⟨?_, ?_, ?_⟩
          · unfold eqGuard
            cases op <;> simp [program, Sem.run, bind, Sem.bind, hgt, pure]
          · rw [run_eql_struct, he]; rfl
          · rw [run_neq_struct, he]; rfl
  · obtain ⟨rfl, _⟩ := hx.toT.sc_eq
    obtain ⟨rfl, _⟩ := hy.toT.sc_eq
    by_cases hs : isSliceT P t = true
    · obtain ⟨e, ht⟩ := isSliceT_some hs
      simp [hs] at h; subst h
      exact (slice_eq_run ht none 0 0 ox oy op).1
    · simp [hs] at h
  · obtain ⟨a, l, c, rfl⟩ := sl_some hx.toT
    obtain ⟨rfl, _⟩ := hy.toT.sc_eq
    by_cases hs : isSliceT P t = true
    · obtain ⟨e, ht⟩ := isSliceT_some hs
      simp [hs] at h; subst h
      exact (slice_eq_run ht (some a) l c ox oy op).1
    · simp [hs] at h
  · obtain ⟨a, l, c, rfl⟩ := sl_some hy.toT
    obtain ⟨rfl, _⟩ := hx.toT.sc_eq
    by_cases hs : isSliceT P t = true
    · obtain ⟨e, ht⟩ := isSliceT_some hs
      simp [hs] at h; subst h
      exact (slice_eq_run ht (some a) l c ox oy op).2
    · simp [hs] at h
  · obtain ⟨a, l, c, rfl⟩ := ms_some hx
    obtain ⟨rfl, _⟩ := hy.toT.sc_eq
    by_cases hs : isSliceT P t = true
    · obtain ⟨e, ht⟩ := isSliceT_some hs
      simp [hs] at h; subst h
      exact (slice_eq_run ht (some a) l c ox oy op).1
    · simp [hs] at h
  · obtain ⟨a, l, c, rfl⟩ := ms_some hy
    obtain ⟨rfl, _⟩ := hx.toT.sc_eq
    by_cases hs : isSliceT P t = true
    · obtain ⟨e, ht⟩ := isSliceT_some hs
      simp [hs] at h; subst h
      exact (slice_eq_run ht (some a) l c ox oy op).2
    · simp [hs] at h
  · obtain ⟨rfl, _⟩ := hx.toT.sc_eq
    obtain ⟨rfl, _⟩ := hy.toT.sc_eq
    by_cases hs : isSliceT P t = true
    · obtain ⟨e, ht⟩ := isSliceT_some hs
      simp [hs] at h; subst h
      exact (slice_eq_run ht _ _ _ ox oy op).1
    · simp [hs] at h
  · simp at h

theorem aBin_run {t : TypeId} {op : BinOp} {x y v : AV} {vx vy : Value} {ox oy : Operand} (h : aBin P op t ox oy x y = some v) (hx : Rep D β w vx x) (hy : Rep D β w vy y) :
    ∃ v', (do eqGuard op t ox oy vx vy; binOp op t vx vy : Sem Value).run P w = .ok v' w ∧ Rep D β w v' v := by
  have eqc : ∀ b, aEq P t x y = some b → (op = .eql → v = .t (.sc (.bool b)) → ∃ v', (do eqGuard op t ox oy vx vy; binOp op t vx vy : Sem Value).run P w = .ok v' w ∧ Rep D β w v' v) ∧
      (op = .neq → v = .t (.sc (.bool !b)) → ∃ v', (do eqGuard op t ox oy vx vy; binOp op t vx vy : Sem Value).run P w = .ok v' w ∧ Rep D β w v' v) := by
    intro b hb
    obtain ⟨g1, g2, g3⟩ := aEq_run hb hx hy op ox oy
    refine ⟨fun e1 e2 => ?_, fun e1 e2 => ?_⟩
    · subst e1; subst e2
      exact ⟨.bool b, by simp [g1, Result.andThen, g2], .t _ _ (.sc _ rfl)⟩
    · subst e1; subst e2
      exact ⟨.bool !b, by simp [g1, Result.andThen, g3], .t _ _ (.sc _ rfl)⟩
  unfold aBin at h
  split at h
  · split at h
    · split at h
      · rename_i b hb; simp at h; exact (eqc b hb).1 rfl h.symm
      · simp at h
    · split at h
      · rename_i b hb; simp at h; exact (eqc b hb).2 rfl h.symm
      · simp at h
    · simp at h
  · rename_i a b _
    obtain ⟨rfl, _⟩ := hx.toT.sc_eq
    obtain ⟨rfl, _⟩ := hy.toT.sc_eq
    split at h
    · rename_i r hr
      by_cases ho : okVal r = true
      · simp [ho] at h; subst h
        exact ⟨r, pureRun_run hr w, .t _ _ (okVal_rep ho)⟩
      · simp [ho] at h
    · simp at h
  · split at h
    · split at h
      · rename_i b hb; simp at h; exact (eqc b hb).1 rfl h.symm
      · simp at h
    · split at h
      · rename_i b hb; simp at h; exact (eqc b hb).2 rfl h.symm
      · simp at h
    · simp at h


theorem len_run [Cp] {at_ : Array TypeId} {ty : TypeId} {x v : AV} {vx : Value} (hb : aBuiltin P .len at_.toList ty [x] h = some (.val v h')) (hx : Rep D β w vx x)
    (hobj : ∀ (o : Nat) y, o ∈ objsOf x → h[o]? = some y → ObjOk D β w o y) : h' = h ∧ ∃ v', (Builtin.len_ at_ ty #[vx]).run P w = .ok v' w ∧ Rep D β w v' v := by
  simp only [aBuiltin] at hb
  split at hb
  · rename_i t hat
    have hat0 : at_[0]? = some t := by rw [← Array.getElem?_toList, hat]; rfl
    cases ht : typ P t with
    | none => simp [ht] at hb
    | some d =>
      simp only [ht] at hb
      split at hb
      · rename_i e hd
        simp at hd; subst hd
        split at hb
        · rename_i n hn
          simp at hb
          obtain ⟨rfl, rfl⟩ := hb
          refine ⟨rfl, .int .i64 n, ?_, .t _ _ (.sc _ rfl)⟩
          unfold lenOf at hn
          split at hn
          · rename_i clip k xs
            obtain ⟨a, cap, rfl, _, _⟩ := Rep.slice_form hx.toT
            simp at hn; subst hn
            simp [Builtin.len_, hat0, run_underlying ht, Result.andThen, goInt]
          · obtain ⟨rfl, _⟩ := hx.toT.sc_eq
            simp at hn; subst hn
            simp [Builtin.len_, hat0, run_underlying ht, Result.andThen, goInt]
          · rename_i o e i len k clip
            obtain ⟨a, cap, rfl, _, _⟩ := ms_form hx
            simp at hn; subst hn
            simp [Builtin.len_, hat0, run_underlying ht, Result.andThen, goInt]
          · simp at hn
        · simp at hb
      · rename_i hd
        simp at hd; subst hd
        split at hb
        · rename_i s
          obtain ⟨rfl, _⟩ := hx.toT.sc_eq
          simp at hb
          obtain ⟨rfl, rfl⟩ := hb
          exact ⟨rfl, .int .i64 s.size, by simp [Builtin.len_, hat0, run_underlying ht, Result.andThen, goInt], .t _ _ (.sc _ rfl)⟩
        · simp at hb
      · rename_i n e hd
        simp at hd; subst hd
        simp at hb
        obtain ⟨rfl, rfl⟩ := hb
        exact ⟨rfl, .int .i64 n, by simp [Builtin.len_, hat0, run_underlying ht, Result.andThen, goInt], .t _ _ (.sc _ rfl)⟩
      · rename_i a hd
        simp at hd; subst hd
        split at hb
        · rename_i n e hta
          simp at hb
          obtain ⟨rfl, rfl⟩ := hb
          exact ⟨rfl, .int .i64 n, by simp [Builtin.len_, hat0, run_underlying ht, run_underlying hta, Result.andThen, goInt], .t _ _ (.sc _ rfl)⟩
        · simp at hb
      · rename_i kt e hd
        simp at hd; subst hd
        split at hb
        · rename_i o
          split at hb
          · rename_i es ho
            simp at hb
            obtain ⟨rfl, rfl⟩ := hb
            cases hx with
            | mp _ b kk hbb =>
              obtain ⟨_, hD, mes, clock, h1, h2, h3⟩ := hobj o _ (by simp [objsOf]) ho 0 b kk hbb
              have hget : (getObj b).run P w = .ok (.map mes clock) w := by simp [getObj, Sem.run, h1]
              exact ⟨rfl, .int .i64 es.length, by simp [Builtin.len_, hat0, run_underlying ht, Result.andThen, goInt, hget, h2], .t _ _ (.sc _ rfl)⟩
          · simp at hb
        · simp at hb
      · simp at hb
  · simp at hb

end Go.Abs

/- All operations but calls of functions. -/
namespace Go.Abs
open Go

variable {P : Program} {pol : Pol} {f : FuncId} {Z : Base} {D : Dom} {β : Bet} {w : World} {h h' : Heap} {ρ : Operand → AV} {ρr : Operand → Value}

theorem mapO_at {α γ : Type} {g : α → Option γ} : ∀ {l : List α} {r : List γ}, mapO g l = some r → l.length = r.length ∧ ∀ (i : Nat) b, r[i]? = some b → ∃ a, l[i]? = some a ∧ g a = some b := by
  intro l
  induction l with
  | nil => intro r h; simp [mapO] at h; subst h; exact ⟨rfl, fun i b hb => by simp at hb⟩
  | cons a l ih =>
    intro r h
    simp only [mapO] at h
    cases hf : g a with
    | none => rw [hf] at h; simp at h
    | some b =>
      rw [hf] at h
      cases hm : mapO g l with
      | none => rw [hm] at h; simp at h
      | some bs =>
        rw [hm] at h
        simp only [Option.some.injEq] at h
        subst h
        obtain ⟨h1, h2⟩ := ih hm
        refine ⟨by simp [h1], fun i c hc => ?_⟩
        cases i with
        | zero => simp at hc; subst hc; exact ⟨a, rfl, hf⟩
        | succ i => obtain ⟨a', p1, p2⟩ := h2 i c (by simpa using hc); exact ⟨a', by simpa using p1, p2⟩

theorem byte_some {x : T} {b : UInt8} (h : byteOf x = some b) : x = .sc (.int .u8 (b.toNat : Int)) := by
  unfold byteOf at h
  split at h
  · rename_i n
    split at h
    · rename_i hn
      cases h
      congr 2
      simp
      omega
    · exact (by cases h)
  · exact (by cases h)

/-- A slice of bytes becomes a text. -/
theorem text_run {s t : TypeId} {c : Bool} {k : Nat} {y : T} {ys : List T} {av : AV} {vv : Value} (h : textOf P s t (y :: ys) = some av) (hr : RepT D w vv (.sl c k (y :: ys))) :
    ∃ l : List UInt8, av = .t (.sc (.string ⟨l.toArray⟩)) ∧ (convert s t vv).run P w = .ok (.string ⟨l.toArray⟩) w := by
  unfold textOf at h
  split at h
  · rename_i e hs ht
    split at h
    · rename_i l he hl
      cases h
      refine ⟨l, rfl, ?_⟩
      obtain ⟨h1, h2⟩ := mapO_at hl
      generalize hxs : y :: ys = xs at hr h1 h2
      cases hr with
      | nosl => simp at hxs
      | sl b off len cap _ _ _ hD hlen hcap hclip hk cc hc hrep =>
        have hk1 : k = 1 := by
          obtain ⟨b0, hb0⟩ : ∃ b0, l[0]? = some b0 := by
            have : 0 < l.length := by rw [← h1, ← hxs]; simp
            exact ⟨_, List.getElem?_eq_getElem this⟩
          obtain ⟨x, hx, hbx⟩ := h2 0 b0 hb0
          have := hk 0 x hx
          rw [byte_some hbx] at this
          exact this.symm
        subst hk1
        have hll : len = l.length := by rw [hlen, h1]
        subst hll
        refine run_convert_bytes_back w s t e ⟨b, off, none⟩ cap l hs he ht fun j hj => ?_
        obtain ⟨x, hx, hbx⟩ := h2 j l[j] (List.getElem?_eq_getElem hj)
        have hxe := byte_some hbx
        subst hxe
        have hj1 := (hc j (by omega)).1
        have hre := hrep j _ 0 _ hx rfl
        have := hre.sc_eq.1
        simp only [Nat.mul_one, Nat.add_zero] at this
        rw [this] at hj1
        have ha : (⟨b, off, none⟩ : Addr).add j = ⟨b, off + j, none⟩ := by simp [Addr.add]
        rw [ha]
        exact hj1
    · exact (by cases h)
  · exact (by cases h)

/-- The value of an operation, or nothing where it has none. -/
def resVal : Res → Option (AV × Heap)
  | .val v h => some (v, h)
  | .skip h => some (.t (.sc undef), h)
  | .call _ _ => none

theorem minmax_inv {at_ : List TypeId} {ty : TypeId} {X Y : AV} {r : Res} {b : Builtin} (hb : b = .min ∨ b = .max) (ha : aBuiltin P b at_ ty [X, Y] h = some r) :
    ∃ k a k' c, X = .t (.sc (.int k a)) ∧ Y = .t (.sc (.int k' c)) ∧ ((b = .min ∧ r = .val (.t (.sc (.int k (if c < a then c else a)))) h) ∨ (b = .max ∧ r = .val (.t (.sc (.int k (if a < c then c else a)))) h)) := by
  unfold aBuiltin at ha
  rcases hb with rfl | rfl
  · split at ha <;> simp_all
    exact ⟨_, _, ⟨rfl, rfl⟩, _, _, ⟨rfl, rfl⟩, ha.symm⟩
  · split at ha <;> simp_all
    exact ⟨_, _, ⟨rfl, rfl⟩, _, _, ⟨rfl, rfl⟩, ha.symm⟩

theorem builtin_good [Cp] {o : Oper} {c : Call} {b : Builtin} {r : Res} {v : AV} (ho : o.op = .call c) (hc : c.callee = .builtin b) (ha : aBuiltin P b c.argTypes.toList o.type (c.args.toList.map ρ) h = some r) (hv : resVal r = some (v, h'))
    (hg : GInv Z D β w) (hρ : ∀ x, Rep D β w (ρr x) (ρ x)) (hn : ∀ o e, h.length ≤ o → o < h'.length → β o e = none)
    (hobj : ∀ (o' : Nat) y, o' ∈ (touch0 pol f ρ o).getD [] → h[o']? = some y → ObjOk D β w o' y) :
    Good Z D β w h h' ((touch0 pol f ρ o).getD []) v ((execOp ρr o).run P w) := by
  have hex : ∀ vs, c.args.map ρr = vs → ∃ cs, (execOp ρr o).run P w = (builtin b c.argTypes o.type cs vs).run P w := by
    intro vs hvs
    exact ⟨_, by simp only [execOp, ho, resolve, hc, Sem.run_bind, Sem.run_pure, Result.andThen, invoke, hvs]; rfl⟩
  have hargs : ∀ l : List Operand, c.args.toList = l → c.args.map ρr = (l.map ρr).toArray := by
    intro l hl
    apply Array.ext'
    simp [hl]
  cases hl : c.args.toList with
  | nil => rw [hl] at ha; cases b <;> simp [aBuiltin] at ha
  | cons x l =>
    cases hl2 : l with
    | nil =>
      subst hl2
      rw [hl] at ha
      cases b <;> simp only [List.map_cons, List.map_nil] at ha <;> try (simp [aBuiltin] at ha; done)
      -- len
      have htch : (touch0 pol f ρ o).getD [] = objsOf (ρ x) := by simp [touch0, ho, hc, hl]
      rw [htch] at hobj ⊢
      cases r with
      | skip _ => simp only [aBuiltin] at ha; repeat (split at ha <;> try (simp at ha))
      | call _ _ => simp only [aBuiltin] at ha; repeat (split at ha <;> try (simp at ha))
      | val v0 h0 =>
        simp [resVal] at hv
        obtain ⟨rfl, rfl⟩ := hv
        obtain ⟨rfl, hr⟩ := len_run (P := P) ha (hρ x) hobj
        obtain ⟨cs, hcs⟩ := hex _ (hargs _ hl)
        refine Good.ofEx hg ?_ hr hobj
        rw [hcs]
        rfl
    | cons y l =>
      cases hl3 : l with
      | cons z l => subst hl2; subst hl3; rw [hl] at ha; cases b <;> simp [aBuiltin] at ha
      | nil =>
        subst hl2; subst hl3
        rw [hl] at ha
        obtain ⟨cs, hvs⟩ := hex _ (hargs _ hl)
        cases b <;> simp only [List.map_cons, List.map_nil] at ha hvs <;> try (simp [aBuiltin] at ha; done)
        · -- append
          have htch : (touch0 pol f ρ o).getD [] = objsOf (ρ x) ++ objsOf (ρ y) := by simp [touch0, ho, hc, hl]
          rw [htch] at hobj ⊢
          simp only [aBuiltin] at ha
          split at ha
          · rename_i t u hat
            split at ha
            · rename_i eu hu
              split at ha
              · rename_i v0 h0 happ
                simp at ha
                subst ha
                simp [resVal] at hv
                obtain ⟨rfl, rfl⟩ := hv
                have hat' : c.argTypes = #[t, u] := by apply Array.ext'; simp [hat]
                have := aAppend_done (ty := o.type) hg happ hu (hρ x) (hρ y) (fun hl e => hn _ e (Nat.le_refl _) hl) hobj
                rw [hvs, hat']
                exact this
              · simp at ha
            · simp at ha
          · simp at ha
        · -- copy
          have htch : (touch0 pol f ρ o).getD [] = objsOf (ρ x) ++ objsOf (ρ y) := by simp [touch0, ho, hc, hl]
          rw [htch] at hobj ⊢
          simp only [aBuiltin] at ha
          split at ha
          · rename_i t rest hat
            split at ha
            · rename_i v0 h0 happ
              simp at ha
              subst ha
              simp [resVal] at hv
              obtain ⟨rfl, rfl⟩ := hv
              have hat0 : c.argTypes[0]? = some t := by rw [← Array.getElem?_toList, hat]; rfl
              have := aCopy_done (ty := o.type) hg happ hat0 (hρ x) (hρ y) hobj
              rw [hvs]
              exact this
            · simp at ha
          · simp at ha
        · -- max
          have htch : (touch0 pol f ρ o).getD [] = [] := by simp [touch0, ho, hc]
          rw [htch] at hobj ⊢
          obtain ⟨k, a, k', e, hx, hy, hr⟩ := minmax_inv (.inr rfl) ha
          simp at hr
          subst hr
          simp [resVal] at hv
          obtain ⟨rfl, rfl⟩ := hv
          have h1 := hρ x
          have h2 := hρ y
          rw [hx] at h1
          rw [hy] at h2
          have e1 := h1.toT.sc_eq.1
          have e2 := h2.toT.sc_eq.1
          refine Good.ofPure hg ?_ (.t _ _ (.sc _ rfl)) hobj
          rw [hvs, e1, e2]
          rfl
        · -- min
          have htch : (touch0 pol f ρ o).getD [] = [] := by simp [touch0, ho, hc]
          rw [htch] at hobj ⊢
          obtain ⟨k, a, k', e, hx, hy, hr⟩ := minmax_inv (.inl rfl) ha
          simp at hr
          subst hr
          simp [resVal] at hv
          obtain ⟨rfl, rfl⟩ := hv
          have h1 := hρ x
          have h2 := hρ y
          rw [hx] at h1
          rw [hy] at h2
          have e1 := h1.toT.sc_eq.1
          have e2 := h2.toT.sc_eq.1
          refine Good.ofPure hg ?_ (.t _ _ (.sc _ rfl)) hobj
          rw [hvs, e1, e2]
          rfl

theorem repL_map (hρ : ∀ x, Rep D β w (ρr x) (ρ x)) (l : Array Operand) (i : Nat) (v : Value) (x : AV) (hv : (l.map ρr)[i]? = some v) (hx : (l.toList.map ρ)[i]? = some x) : Rep D β w v x := by
  rw [Array.getElem?_map, Option.map_eq_some_iff] at hv
  rw [List.getElem?_map, Option.map_eq_some_iff] at hx
  obtain ⟨a, ha, rfl⟩ := hv
  obtain ⟨b, hb, rfl⟩ := hx
  rw [Array.getElem?_toList, ha] at hb
  cases hb
  exact hρ a

set_option maxHeartbeats 1000000 in
theorem op_good [Cp] {o : Oper} {r : Res} {v : AV} (ha : aOp P pol f ρ h o = some r) (hv : resVal r = some (v, h')) (hg : GInv Z D β w) (hρ : ∀ x, Rep D β w (ρr x) (ρ x)) (hn : ∀ o e, h.length ≤ o → o < h'.length → β o e = none)
    (hobj : ∀ (o' : Nat) y, o' ∈ (touch0 pol f ρ o).getD [] → h[o']? = some y → ObjOk D β w o' y) :
    Good Z D β w h h' ((touch0 pol f ρ o).getD []) v ((execOp ρr o).run P w) := by
  have hn0 : h.length < h'.length → ∀ e, β h.length e = none := fun hl e => hn _ e (Nat.le_refl _) hl
  have flag : ∀ {x : Option AV}, (match x with | some v => some (Res.val v h) | none => none) = some r → x = some v ∧ h' = h := by
    intro x hx
    obtain ⟨v0, h1, h2⟩ := flagSome hx
    subst h2
    simp [resVal] at hv
    exact ⟨by rw [h1, hv.1], hv.2.symm⟩
  have val : ∀ {v0 : AV} {h0 : Heap}, some (Res.val v0 h0) = some r → v0 = v ∧ h' = h0 := by
    intro v0 h0 e
    cases e
    simp [resVal] at hv
    exact ⟨hv.1, hv.2.symm⟩
  cases hop : o.op with
  | move x =>
    simp only [aOp, hop] at ha
    obtain ⟨rfl, rfl⟩ := val ha
    exact Good.ofPure hg (by simp [execOp, hop]) (hρ x) hobj
  | assign x =>
    simp only [aOp, hop] at ha
    have plain : Good Z D β w h h ((touch0 pol f ρ o).getD []) (ρ x) ((execOp ρr o).run P w) := Good.ofPure hg (by simp [execOp, hop]) (hρ x) hobj
    split at ha
    · split at ha
      · rename_i elem hx ht
        split at ha
        · rename_i size hs
          obtain ⟨rfl, rfl⟩ := val ha
          have htch : (touch0 pol f ρ o).getD [] = [] := by simp [touch0, hop]
          rw [htch]
          have hrx := hρ x
          rw [hx] at hrx
          have e := hrx.toT.sc_eq.1
          have : (execOp ρr o).run P w = .ok (.value (.slice none 0 0)) w := by simp [execOp, hop, e]
          rw [this]
          exact grow_none_done hg (hn0 (by simp))
        · simp at ha
      · obtain ⟨rfl, rfl⟩ := val ha
        exact plain
    · obtain ⟨rfl, rfl⟩ := val ha
      exact plain
  | pick c a b =>
    simp only [aOp, hop] at ha
    split at ha
    · rename_i cb hc
      have hrc := hρ c
      rw [hc] at hrc
      have ec := hrc.toT.sc_eq.1
      have hrun : (execOp ρr o).run P w = .ok (.value (if cb then ρr a else ρr b)) w := by simp [execOp, hop, ec, asBool, Result.andThen]
      split at ha
      · rename_i xb yb hx hy
        obtain ⟨rfl, rfl⟩ := val ha
        have hra := hρ a
        have hrb := hρ b
        rw [hx] at hra
        rw [hy] at hrb
        refine Good.ofPure hg hrun ?_ hobj
        rw [hra.toT.sc_eq.1, hrb.toT.sc_eq.1]
        cases cb
        · exact .t _ _ (.sc _ rfl)
        · exact .t _ _ (.sc _ rfl)
      · obtain ⟨rfl, rfl⟩ := val ha
        refine Good.ofPure hg hrun ?_ hobj
        cases cb
        · exact hρ b
        · exact hρ a
    · simp at ha
  | alloc t =>
    simp only [aOp, hop] at ha
    have htch : (touch0 pol f ρ o).getD [] = [] := by simp [touch0, hop]
    rw [htch]
    have hrunA : ∀ zv, (∀ w, (zeroValue t).run P w = .ok zv w) → (execOp ρr o).run P w = .ok (.value (.pointer (some ⟨w.heap.size, 0, none⟩))) (w.alloc (.cells zv.cells t (0, 0))) := by
      intro zv hzr
      simp [execOp, hop, Instr.alloc, hzr, newVar, run_newRow, Result.andThen]
    split at ha
    · split at ha
      · rename_i elem hz ht
        split at ha
        · rename_i size hs
          obtain ⟨rfl, rfl⟩ := val ha
          obtain ⟨zv, hok, hzo, hzr⟩ := zeroOf_val hz
          have hzv : zv = .slice none 0 0 := by
            have := okVal_rep (D := D) (w := w) hok
            rw [← hzo] at this
            exact this.sc_eq.1
          subst hzv
          rw [hrunA _ hzr]
          exact grow_var_done hg (fun o e h1 h2 => hn o e h1 (by simp; omega))
        · simp at ha
      · rename_i zs fields hz ht
        split at ha
        · rename_i l hl
          split at ha
          · rename_i cs hcs
            split at ha
            · rename_i hst
              obtain ⟨rfl, rfl⟩ := val ha
              obtain ⟨zv, hok, hzo, hzr⟩ := zeroOf_val hz
              have hrep := okVal_rep (D := D) (w := w) hok
              rw [← hzo] at hrep
              rw [hrunA _ hzr]
              cases hrep with
              | agg vs _ hl0 hrr =>
                obtain ⟨k1, k2⟩ := growAV_rep (D := D) (β := β) (w := w) (vs := vs) l h.length _ _ hcs (by simpa using hl0) (fun i v t hv ht => by
                  rw [List.getElem?_map] at ht
                  cases hz' : zs[i]? with
                  | none => rw [hz'] at ht; simp at ht
                  | some x => rw [hz'] at ht; simp at ht; subst ht; exact .t _ _ (hrr i v x hv hz'))
                exact grow_struct_done hg (.agg vs cs k1 k2) hst (fun o e h1 h2 => hn o e h1 (by simp [growRows_len]; omega))
            · simp at ha
          · simp at ha
        · simp at ha
      · simp at ha
    · split at ha
      · rename_i z hz
        split at ha
        · rename_i hst
          obtain ⟨rfl, rfl⟩ := val ha
          obtain ⟨zv, hok, rfl, hzr⟩ := zeroOf_val hz
          rw [hrunA _ hzr]
          exact ⟨newVar_done hg (.t _ _ (okVal_rep hok)) hst (by simp) (hn0 (by simp)), fun o ho => append_new_get h _ _ o ho, by simp⟩
        · simp at ha
      · simp at ha
  | box t x =>
    simp only [aOp, hop] at ha
    have htch : (touch0 pol f ρ o).getD [] = [] := by simp [touch0, hop]
    rw [htch]
    have hrunB : (execOp ρr o).run P w = .ok (.value (.pointer (some ⟨w.heap.size, 0, none⟩))) (w.alloc (.cells (ρr x).cells t (0, 0))) := by
      simp [execOp, hop, box_run, Result.andThen]
    have cellar : ∀ y, ρ x = y → (h.length < h.length + 1 → ∀ e, β h.length e = none) → (storableAll y.cells && !y.cells.isEmpty) = true → Good Z D β w h (h ++ [.row y.cells.length [y] 0]) [] (.ref h.length 1 0 0) ((execOp ρr o).run P w) := by
      intro y hy hnx hst
      simp at hst
      rw [hrunB]
      have hrx := hρ x
      rw [hy] at hrx
      exact ⟨newVar_done hg hrx hst.1 (by rintro rfl; simp [AV.cells] at hst) (hnx (by simp)), fun o ho => append_new_get h _ _ o ho, by simp⟩
    split at ha
    · split at ha
      · rename_i elem hx ht
        split at ha
        · rename_i size hs
          obtain ⟨rfl, rfl⟩ := val ha
          have hrx := hρ x
          rw [hx] at hrx
          have e := hrx.toT.sc_eq.1
          rw [hrunB, e]
          exact grow_var_done hg (fun o e h1 h2 => hn o e h1 (by simp; omega))
        · simp at ha
      · split at ha
        · rename_i hst
          obtain ⟨rfl, rfl⟩ := val ha
          exact cellar _ rfl (fun _ => hn0 (by simp)) hst
        · simp at ha
    · split at ha
      · rename_i y hmu hx
        split at ha
        · rename_i hst
          obtain ⟨rfl, rfl⟩ := val ha
          have hrx := hρ x
          rw [hx] at hrx
          rw [hrunB]
          exact ⟨boxT_done hg hrx.toT hst, fun _ _ => rfl, Nat.le_refl _⟩
        · simp at ha
      · split at ha
        · rename_i hst
          obtain ⟨rfl, rfl⟩ := val ha
          exact cellar _ rfl (fun _ => hn0 (by simp)) hst
        · simp at ha
  | build t parts =>
    simp only [aOp, hop] at ha
    obtain ⟨hb, rfl⟩ := flag ha
    exact Good.ofEx hg (by simp only [execOp, hop]) (aBuild_run hb (zipT_rep hρ parts)) hobj
  | buildSlice t len parts =>
    simp only [aOp, hop] at ha
    have htch : (touch0 pol f ρ o).getD [] = [] := by simp [touch0, hop]
    rw [htch]
    split at ha
    · rename_i elem ht
      split at ha
      · rename_i size z hs hz
        split at ha
        · simp at ha
        · rename_i hc
          split at ha
          · rename_i elems hf
            obtain ⟨c, hrun, hfl, hlen, hcs⟩ := buildSlice_done (D := D) (β := β) (w := w) (Z := Z) hg ht hs hz hc hf (zipT_rep hρ parts)
            have hrun' : (execOp ρr o).run P w = .ok (.value (.slice (some ⟨w.heap.size, 0, none⟩) len len)) (w.alloc (.cells c elem (0, 0))) := by
              simp only [execOp, hop, Sem.run_bind, hrun, Result.andThen, Sem.run_pure]
            rw [hrun']
            split at ha
            · rename_i ts hmu hts
              obtain ⟨rfl, rfl⟩ := val ha
              have e := allT_eq hts
              subst e
              have hlt : ts.length = len := by simpa using hlen
              subst hlt
              exact ⟨newTree_done hg hfl, fun _ _ => rfl, Nat.le_refl _⟩
            · obtain ⟨rfl, rfl⟩ := val ha
              subst hlen
              exact ⟨newSlice_done (.refl D β w) hg hfl (hn0 (by simp)) (Nat.le_refl _) (fun _ => rfl) (by omega) (fun o x ho => by simp at ho), fun o ho => append_new_get h _ _ o ho, by simp⟩
          · simp at ha
      · simp at ha
    · simp at ha
  | insert t m k x =>
    simp only [aOp, hop] at ha
    have htch : (touch0 pol f ρ o).getD [] = objsOf (ρ m) := by simp [touch0, hop]
    rw [htch] at hobj ⊢
    split at ha
    · rename_i h0 hs
      cases ha
      simp [resVal] at hv
      obtain ⟨rfl, rfl⟩ := hv
      have := aMapSet_done (P := P) hg hs (hρ m) (hρ k) (hρ x) hobj
      simp only [execOp, hop]
      exact this
    · simp at ha
  | load t a =>
    simp only [aOp, hop] at ha
    obtain ⟨hb, rfl⟩ := flag ha
    have htch : (touch0 pol f ρ o).getD [] = objsOf (ρ a) := by simp [touch0, hop]
    rw [htch] at hobj ⊢
    exact Good.ofEx hg (by simp only [execOp, hop]) (aLoad_run hb (hρ a) hobj) hobj
  | store t a x =>
    simp only [aOp, hop] at ha
    have htch : (touch0 pol f ρ o).getD [] = objsOf (ρ a) := by simp [touch0, hop]
    rw [htch] at hobj ⊢
    split at ha
    · rename_i h0 hs
      cases ha
      simp [resVal] at hv
      obtain ⟨rfl, rfl⟩ := hv
      have := store_done (P := P) hg hs (hρ a) (hρ x) hobj
      simp only [execOp, hop]
      exact ⟨this.1, this.2.1, by omega⟩
    · simp at ha
  | nilCheck x =>
    simp only [aOp, hop] at ha
    have hrx := hρ x
    split at ha
    · rename_i cs hx
      obtain ⟨rfl, rfl⟩ := val ha
      rw [hx] at hrx
      have hrt := hrx.toT
      generalize hvx : ρr x = vx at hrx hrt
      cases hrt with
      | ip b off cs hD c hc hr => exact Good.ofPure hg (by simp [execOp, hop, hvx]) hrx hobj
    · rename_i g a b hx
      obtain ⟨rfl, rfl⟩ := val ha
      rw [hx] at hrx
      have hrt := hrx.toT
      generalize hvx : ρr x = vx at hrx hrt
      cases hrt with
      | fn => exact Good.ofPure hg (by simp [execOp, hop, hvx]) hrx hobj
    · rename_i o' e i k hx
      obtain ⟨rfl, rfl⟩ := val ha
      rw [hx] at hrx
      generalize hvx : ρr x = vx at hrx
      cases hrx with
      | ref _ _ _ _ b k' hb => exact Good.ofPure hg (by simp [execOp, hop, hvx]) (.ref _ _ _ _ b k' hb) hobj
    · rename_i g a b hx
      obtain ⟨rfl, rfl⟩ := val ha
      rw [hx] at hrx
      generalize hvx : ρr x = vx at hrx
      cases hrx with
      | fn _ a' b' _ _ h1 h2 h3 h4 => exact Good.ofPure hg (by simp [execOp, hop, hvx]) (.fn _ a' b' _ _ h1 h2 h3 h4) hobj
    · rename_i o' hx
      obtain ⟨rfl, rfl⟩ := val ha
      rw [hx] at hrx
      generalize hvx : ρr x = vx at hrx
      cases hrx with
      | yl _ b k' hb => exact Good.ofPure hg (by simp [execOp, hop, hvx]) (.yl _ b k' hb) hobj
    · simp at ha
  | binOp op t x y yt =>
    simp only [aOp, hop] at ha
    obtain ⟨hb, rfl⟩ := flag ha
    exact Good.ofEx hg (by simp only [execOp, hop]) (aBin_run hb (hρ x) (hρ y)) hobj
  | unOp op t x =>
    simp only [aOp, hop] at ha
    split at ha
    · rename_i a hx
      have hrx := hρ x
      rw [hx] at hrx
      have e := hrx.toT.sc_eq.1
      split at ha
      · rename_i r0 hr0
        split at ha
        · rename_i hok
          obtain ⟨rfl, rfl⟩ := val ha
          exact Good.ofEx hg (by simp only [execOp, hop]; rw [e]) ⟨r0, pureRun_run hr0 w, .t _ _ (okVal_rep hok)⟩ hobj
        · simp at ha
      · simp at ha
    · simp at ha
  | convert s t x =>
    simp only [aOp, hop] at ha
    split at ha
    · rename_i a hx
      have hrx := hρ x
      rw [hx] at hrx
      have e := hrx.toT.sc_eq.1
      split at ha
      · rename_i r0 hr0
        split at ha
        · rename_i hok
          obtain ⟨rfl, rfl⟩ := val ha
          exact Good.ofEx hg (by simp only [execOp, hop]; rw [e]) ⟨r0, pureRun_run hr0 w, .t _ _ (okVal_rep hok)⟩ hobj
        · simp at ha
      · simp at ha
    · rename_i c k y ys hx
      have hrx := hρ x
      rw [hx] at hrx
      cases hT : textOf P s t (y :: ys) with
      | none => rw [hT] at ha; simp at ha
      | some av =>
        rw [hT] at ha
        obtain ⟨rfl, rfl⟩ := val ha
        obtain ⟨l, rfl, hrun⟩ := text_run hT hrx.toT
        exact Good.ofEx hg (by simp only [execOp, hop]) ⟨_, hrun, .t _ _ (.sc _ rfl)⟩ hobj
    · simp at ha
  | makeFunc fn first captured =>
    simp only [aOp, hop] at ha
    have hrun : (execOp ρr o).run P w = .ok (.value (.func fn (first.map ρr) (captured.map ρr))) w := by simp [execOp, hop, Instr.makeFunc]
    split at ha
    · rename_i a b ha1 hb1
      obtain ⟨rfl, rfl⟩ := val ha
      have e1 := allT_eq ha1
      have e2 := allT_eq hb1
      refine Good.ofPure hg hrun (.t _ _ (.fn fn _ _ a b ?_ ?_ (fun i v t hv ht => ?_) (fun i v t hv ht => ?_))) hobj
      · have := congrArg List.length e1; simpa using this
      · have := congrArg List.length e2; simpa using this
      · exact (repL_map hρ first i v (.t t) hv (by rw [e1]; simp [ht])).toT
      · exact (repL_map hρ captured i v (.t t) hv (by rw [e2]; simp [ht])).toT
    · obtain ⟨rfl, rfl⟩ := val ha
      exact Good.ofPure hg hrun (.fn fn _ _ _ _ (by simp) (by simp) (fun i v t hv ht => repL_map hρ first i v t hv ht) (fun i v t hv ht => repL_map hρ captured i v t hv ht)) hobj
  | makeMap t res =>
    cases res with
    | some _ => simp [aOp, hop] at ha
    | none =>
      simp only [aOp, hop] at ha
      obtain ⟨rfl, rfl⟩ := val ha
      have htch : (touch0 pol f ρ o).getD [] = [] := by simp [touch0, hop]
      rw [htch]
      have hrun : (execOp ρr o).run P w = .ok (.value (.map (some w.heap.size))) (w.alloc (.map #[] 0)) := by
        simp only [execOp, hop, Instr.makeMap, newObj]; rfl
      rw [hrun]
      have f1 : Frm (stepS [] h (h ++ [.map []])) D β w D β (w.alloc (.map #[] 0)) := frm_alloc hg _
      have f2 : Frm (stepS [] h (h ++ [.map []])) D β (w.alloc (.map #[] 0)) D (bAdd β h.length 0 w.heap.size 0) (w.alloc (.map #[] 0)) := frm_bAdd (.inr ⟨Nat.le_refl _, by simp⟩) (hn0 (by simp) 0)
      have g1 : GInv Z D β (w.alloc (.map #[] 0)) := hg.alloc _ (by simp)
      have g2 := g1.bAdd (o := h.length) (e := 0) (b := w.heap.size) (k := 0) hg.size0 (by simp) (fun o' e' k' hb => by have := (hg.blt _ _ _ _ hb).2; omega) (fun ds hx => by rw [heap_alloc_new] at hx; cases hx)
      refine ⟨⟨_, _, D, _, rfl, .mp _ _ 0 (bAdd_same β h.length 0 w.heap.size 0), f1.trans f2, g2, fun o' y ho' hy => ?_, dom_bAdd (by simp)⟩, fun o ho => append_new_get h _ _ o ho, by simp⟩
      rcases ho' with ho' | ⟨h1, h2⟩
      · simp at ho'
      · have e : o' = h.length := by simp at h2; omega
        subst e
        rw [get_append_new] at hy
        cases hy
        intro e b k hb
        rcases bAdd_cases hb with ⟨_, rfl, hy⟩ | ⟨hb, _⟩
        · cases hy
          exact ⟨rfl, fun hD => by have := hg.dlt _ hD; omega, #[], 0, heap_alloc_new _, rfl, by simp⟩
        · rw [hn0 (by simp)] at hb; cases hb
  | makeSlice t l c =>
    simp only [aOp, hop] at ha
    have htch : (touch0 pol f ρ o).getD [] = [] := by simp [touch0, hop]
    rw [htch]
    split at ha
    · rename_i elem ht
      split at ha
      · rename_i size bytes z n m hs hb hz hl hc
        split at ha
        · rename_i hcond
          obtain ⟨rfl, rfl⟩ := val ha
          obtain ⟨cc, hrun, hfl, hcs⟩ := makeSlice_done (Z := Z) hg ht hs hb hz hl hc (hρ l) (hρ c) hcond
          have hrun' : (execOp ρr o).run P w = .ok (.value (.slice (some ⟨w.heap.size, 0, none⟩) n m)) (w.alloc (.cells cc elem (0, 0))) := by
            simp only [execOp, hop, Sem.run_bind, hrun, Result.andThen, Sem.run_pure]
          rw [hrun']
          have hd := newSlice_done (Z := Z) (h := h) (ty := elem) (cap := m) (clip := decide (n = m)) (tch := []) (.refl D β w) hg hfl (hn0 (by simp)) (by simpa using hcond.2.2.2.1) (by simp; omega) (by rw [hcs]; exact Nat.le_refl _) (fun o x ho => by simp at ho)
          simp only [List.length_replicate] at hd
          exact ⟨hd, fun o ho => append_new_get h _ _ o ho, by simp⟩
        · simp at ha
      · simp at ha
    · simp at ha
  | slice t x lo hi mx =>
    simp only [aOp, hop] at ha
    obtain ⟨hb, rfl⟩ := flag ha
    exact Good.ofEx hg (by simp only [execOp, hop]) (aSlice_run hb (hρ x) (optRep_map hρ lo) (optRep_map hρ hi) (optRep_map hρ mx)) hobj
  | fieldAddr s x fi =>
    simp only [aOp, hop] at ha
    obtain ⟨hb, rfl⟩ := flag ha
    exact Good.ofEx hg (by simp only [execOp, hop]) (aFieldAddr_run hb (hρ x)) hobj
  | field s x fi =>
    simp only [aOp, hop] at ha
    split at ha
    · rename_i t off hf hag
      obtain ⟨hb, rfl⟩ := flag ha
      exact Good.ofEx hg (by simp only [execOp, hop]) (aFieldVal_run hf hag hb (hρ x)) hobj
    · simp at ha
  | indexAddr t x ix =>
    simp only [aOp, hop] at ha
    obtain ⟨hb, rfl⟩ := flag ha
    exact Good.ofEx hg (by simp only [execOp, hop]) (aIndexAddr_run hb (hρ x) (hρ ix)) hobj
  | index t x ix =>
    simp only [aOp, hop] at ha
    obtain ⟨hb, rfl⟩ := flag ha
    exact Good.ofEx hg (by simp only [execOp, hop]) (aIndex_run hb (hρ x) (hρ ix)) hobj
  | lookup t x ix ok =>
    simp only [aOp, hop] at ha
    obtain ⟨hb, rfl⟩ := flag ha
    have htch : (touch0 pol f ρ o).getD [] = objsOf (ρ x) := by simp [touch0, hop]
    rw [htch] at hobj ⊢
    exact Good.ofEx hg (by simp only [execOp, hop]) (aLookup_run hb (hρ x) (hρ ix) hobj) hobj
  | mapUpdate t m k x =>
    simp only [aOp, hop] at ha
    have htch : (touch0 pol f ρ o).getD [] = objsOf (ρ m) := by simp [touch0, hop]
    rw [htch] at hobj ⊢
    split at ha
    · rename_i h0 hs
      cases ha
      simp [resVal] at hv
      obtain ⟨rfl, rfl⟩ := hv
      have := aMapSet_done (P := P) hg hs (hρ m) (hρ k) (hρ x) hobj
      simp only [execOp, hop]
      exact this
    · simp at ha
  | extract x i =>
    simp only [aOp, hop] at ha
    have hrx := hρ x
    split at ha
    · rename_i vs hx
      split at ha
      · rename_i y hy
        obtain ⟨rfl, rfl⟩ := val ha
        rw [hx] at hrx
        have hrt := hrx.toT
        generalize hvx : ρr x = vx at hrx hrt
        cases hrt with
        | tup cs _ hl hr =>
          have hi : i < cs.size := by rw [hl]; exact (List.getElem?_eq_some_iff.1 hy).1
          have hci : cs[i]? = some cs[i] := by simp [hi]
          exact Good.ofPure hg (by simp [execOp, hop, hvx, Instr.extract, hci, Result.andThen]) (.t _ _ (hr i _ y hci hy)) hobj
      · simp at ha
    · rename_i vs hx
      obtain ⟨hb, rfl⟩ := flag ha
      rw [hx] at hrx
      generalize hvx : ρr x = vx at hrx
      cases hrx with
      | tup cs _ hl hr =>
        have hi : i < cs.size := by rw [hl]; exact (List.getElem?_eq_some_iff.1 hb).1
        have hci : cs[i]? = some cs[i] := by simp [hi]
        exact Good.ofPure hg (by simp [execOp, hop, hvx, Instr.extract, hci, Result.andThen]) (hr i _ v hci hb) hobj
    · simp at ha
  | call c =>
    cases hc : c.callee with
    | builtin b =>
      simp only [aOp, hop, hc] at ha
      exact builtin_good hop hc ha hv hg hρ hn hobj
    | value g =>
      simp only [aOp, hop, hc] at ha
      exfalso
      unfold aCallee callOf at ha
      split at ha
      · split at ha
        · cases ha; simp [resVal] at hv
        · simp at ha
      · split at ha
        · cases ha; simp [resVal] at hv
        · simp at ha
      · cases ha; simp [resVal] at hv
      · simp at ha
    | invoke a b => simp [aOp, hop, hc] at ha
  | ready _ => simp [aOp, hop] at ha
  | waits _ => simp [aOp, hop] at ha
  | sliceToArrayPointer _ _ => simp [aOp, hop] at ha
  | makeInterface _ _ => simp [aOp, hop] at ha
  | makeChan _ _ => simp [aOp, hop] at ha
  | mapEntry _ _ _ => simp [aOp, hop] at ha
  | entryStore _ _ _ _ => simp [aOp, hop] at ha
  | range _ _ => simp [aOp, hop] at ha
  | next _ _ => simp [aOp, hop] at ha
  | entry _ => simp [aOp, hop] at ha
  | typeAssert _ _ _ _ => simp [aOp, hop] at ha
  | go _ => simp [aOp, hop] at ha
  | defer _ => simp [aOp, hop] at ha
  | panic _ => simp [aOp, hop] at ha
  | send _ _ => simp [aOp, hop] at ha
  | recv _ _ _ => simp [aOp, hop] at ha
  | select _ _ => simp [aOp, hop] at ha

end Go.Abs
