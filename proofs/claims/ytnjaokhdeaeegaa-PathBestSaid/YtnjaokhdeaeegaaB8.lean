/- Part 8 of the proof of PathBest. -/
import Derived.Test.YtnjaokhdeaeegaaB7
set_option linter.all false
set_option maxRecDepth 100000
set_option maxHeartbeats 4000000
namespace Go.Abs
open Go
variable {P:Program} {pol:Pol} {K:Oracle} {I:Inl} {f:FuncId} {n:Nat} {e:FEnv} {h:Heap} {o:Oper}
theorem nc0:((0:Nat):Int)=0:=(fun x=>x) rfl
theorem nc1:((1:Nat):Int)=1:=(fun x=>x) rfl
theorem ncOf {n:Nat}:(Nat.cast (no_index (OfNat.ofNat n)):Int)=OfNat.ofNat n:=(fun x=>x) rfl
theorem qeH:IntKind.i64.bits=64:=(fun x=>x) rfl
theorem qeI:IntKind.u64.bits=64:=(fun x=>x) rfl
theorem qeJ:IntKind.u8.bits=8:=(fun x=>x) rfl
theorem qeK:IntKind.u16.bits=16:=(fun x=>x) rfl
theorem qeL:IntKind.u32.bits=32:=(fun x=>x) rfl
theorem qeM:IntKind.i32.bits=32:=(fun x=>x) rfl
def i64or (x y:Int):Int:=IntKind.i64.wrap ((BitVec.ofInt 64 x ||| BitVec.ofInt 64 y).toNat:Nat)
def i64and (x y:Int):Int:=IntKind.i64.wrap ((BitVec.ofInt 64 x &&& BitVec.ofInt 64 y).toNat:Nat)
def i64xor (x y:Int):Int:=IntKind.i64.wrap ((BitVec.ofInt 64 x ^^^ BitVec.ofInt 64 y).toNat:Nat)
def u64or (x y:Int):Int:=IntKind.u64.wrap ((BitVec.ofInt 64 x ||| BitVec.ofInt 64 y).toNat:Nat)
def u64and (x y:Int):Int:=IntKind.u64.wrap ((BitVec.ofInt 64 x &&& BitVec.ofInt 64 y).toNat:Nat)
def u64xor (x y:Int):Int:=IntKind.u64.wrap ((BitVec.ofInt 64 x ^^^ BitVec.ofInt 64 y).toNat:Nat)
def u64andNot (x y:Int):Int:=IntKind.u64.wrap ((BitVec.ofInt 64 x &&& ~~~ BitVec.ofInt 64 y).toNat:Nat)
theorem qeN {bl:Bool} {x y:Int}:iBin .or bl (.t (.sc (.int .i64 x))) (.t (.sc (.int .i64 y)))=some (.t (.sc (.int .i64 (i64or x y)))):=(fun x=>x) rfl
theorem qeO {bl:Bool} {x y:Int}:iBin .and bl (.t (.sc (.int .i64 x))) (.t (.sc (.int .i64 y)))=some (.t (.sc (.int .i64 (i64and x y)))):=(fun x=>x) rfl
theorem qeP {bl:Bool} {x y:Int}:iBin .xor bl (.t (.sc (.int .i64 x))) (.t (.sc (.int .i64 y)))=some (.t (.sc (.int .i64 (i64xor x y)))):=(fun x=>x) rfl
theorem qeQ {bl:Bool} {x y:Int}:iBin .or bl (.t (.sc (.int .u64 x))) (.t (.sc (.int .u64 y)))=some (.t (.sc (.int .u64 (u64or x y)))):=(fun x=>x) rfl
theorem qeR {bl:Bool} {x y:Int}:iBin .and bl (.t (.sc (.int .u64 x))) (.t (.sc (.int .u64 y)))=some (.t (.sc (.int .u64 (u64and x y)))):=(fun x=>x) rfl
theorem qeS {bl:Bool} {x y:Int}:iBin .xor bl (.t (.sc (.int .u64 x))) (.t (.sc (.int .u64 y)))=some (.t (.sc (.int .u64 (u64xor x y)))):=(fun x=>x) rfl
theorem qeT {bl:Bool} {x y:Int}:iBin .andNot bl (.t (.sc (.int .u64 x))) (.t (.sc (.int .u64 y)))=some (.t (.sc (.int .u64 (u64andNot x y)))):=(fun x=>x) rfl
theorem qeU {cs:List T}:iNil (.t (.ip cs))=some (.t (.ip cs)):=(fun x=>x) rfl
theorem qeV {o q i k:Nat}:iNil (.ref o q i k)=some (.ref o q i k):=(fun x=>x) rfl
theorem qeW {g:FuncId} {a b:List T}:iNil (.t (.fn (.func g) a b))=some (.t (.fn (.func g) a b)):=(fun x=>x) rfl
theorem qeX {g:FuncId} {a b:List AV}:iNil (.fn (.func g) a b)=some (.fn (.func g) a b):=(fun x=>x) rfl
theorem qeY {o:Nat}:iNil (.yl o)=some (.yl o):=(fun x=>x) rfl
theorem qeZ:(true != true)=false:=(fun x=>x) rfl
theorem qf0:(false != false)=false:=(fun x=>x) rfl
theorem qf1:(true != false)=true:=(fun x=>x) rfl
theorem qf2:(false != true)=true:=(fun x=>x) rfl
theorem qf3:(true == true)=true:=(fun x=>x) rfl
theorem qf4:(false == false)=true:=(fun x=>x) rfl
theorem qf5:(true == false)=false:=(fun x=>x) rfl
theorem qf6:(false == true)=false:=(fun x=>x) rfl
theorem qf7 {b:Bool}:(b != true) = !b:=by cases b <;> rfl
theorem qf8 {b:Bool}:(b != false)=b:=by cases b <;> rfl
theorem qf9 {b:Bool}:(true != b) = !b:=by cases b <;> rfl
theorem qfa {b:Bool}:(false != b)=b:=by cases b <;> rfl
theorem qfb {b:Bool}:(b != b)=false:=by cases b <;> rfl
theorem qfc {b:Bool}:(b == true)=b:=by cases b <;> rfl
theorem qfd {b:Bool}:(b == false) = !b:=by cases b <;> rfl
theorem qfe {t:Nat}:rhoF pol e (.tmp t)=e t:=(fun x=>x) rfl
def eqR (neg:Bool):Option Bool→Option AV
 | some b=>some (.t (.sc (.bool (if neg then !b else b))))
 | none=>none
theorem qff {b:Bool}:eqR false (some b)=some (.t (.sc (.bool b))):=(fun x=>x) rfl
theorem qfg {b:Bool}:eqR true (some b)=some (.t (.sc (.bool !b))):=(fun x=>x) rfl
def eqV (P:Program) (neg:Bool) (t:TypeId) (x y:AV):Option AV:=eqR neg (aEq P t x y)
theorem qfh {neg:Bool} {t:TypeId} {x y:AV}:eqV P neg t x y=eqR neg (aEq P t x y):=(fun x=>x) rfl
def binE (P:Program) (neg:Bool) (t:TypeId) (ox oy:Operand) (x y:AV):Option AV:=aBin P (if neg then .neq else .eql) t ox oy x y
theorem q2F {t:TypeId} {x y:Operand} {s:TypeId} (ho:o.op=.binOp .eql t x y s):iStep P pol f e h (.raw o)=vOf h (binE P false t x y (rhoF pol e x) (rhoF pol e y)):=by
 show aOp P pol f (rhoF pol e) h o=_
 simp only [aOp,ho,vOf,binE]
 rfl
theorem qfi {neg:Bool} {t:TypeId} {ox oy:Operand} {xs ys:List T}:binE P neg t ox oy (.t (.agg xs)) (.t (.agg ys))=eqV P neg t (.t (.agg xs)) (.t (.agg ys)):=by
 cases neg
 ·simp only [binE,aBin,eqV,eqR,Bool.false_eq_true,if_false]
  cases aEq P t (.t (.agg xs)) (.t (.agg ys)) <;> rfl
 ·simp only [binE,aBin,eqV,eqR,if_true]
  cases aEq P t (.t (.agg xs)) (.t (.agg ys)) <;> rfl
def slB (neg:Bool) (b c:Bool):Option AV:=if c then some (.t (.sc (.bool (if neg then !b else b)))) else none
theorem qfj {b:Bool}:slB false b true=some (.t (.sc (.bool b))):=(fun x=>x) rfl
theorem qfk {b:Bool}:slB true b true=some (.t (.sc (.bool !b))):=(fun x=>x) rfl
theorem q6f {neg:Bool} {t:TypeId} {ox oy:Operand} {c:Bool} {k:Nat} {x:T} {xs:List T}:binE P neg t ox oy (.t (.sl c k (x::xs))) (.t (.sc (.slice none 0 0)))=slB neg false (isSliceT P t):=by
 cases neg <;> simp only [binE,aBin,aEq,slB,Bool.false_eq_true,if_false,if_true] <;> cases isSliceT P t <;> rfl
theorem qfl {neg:Bool} {t:TypeId} {ox oy:Operand}:binE P neg t ox oy (.t (.sc (.slice none 0 0))) (.t (.sc (.slice none 0 0)))=slB neg true (isSliceT P t):=by
 cases neg <;> simp only [binE,aBin,aEq,slB,Bool.false_eq_true,if_false,if_true] <;> cases isSliceT P t <;> rfl
theorem qfm {neg:Bool} {t:TypeId} {ox oy:Operand} {c:Bool} {o q i l k:Nat}:binE P neg t ox oy (.ms o q i (l+1) k c) (.t (.sc (.slice none 0 0)))=slB neg false (isSliceT P t):=by
 cases neg <;> simp only [binE,aBin,aEq,slB,Bool.false_eq_true,if_false,if_true] <;> cases isSliceT P t <;> rfl
def bgB (size:Nat) (h:Heap) (v:AV):Option Res:=if v.cells.length=size∧storableAll v.cells=true then some (.val (.ms h.length 1 0 1 size false) (h++[.row size [v] 0])) else none
theorem qfn {size:Nat} {v:AV}:bgB size h v=if v.cells.length=size∧storableAll v.cells=true then some (.val (.ms h.length 1 0 1 size false) (h++[.row size [v] 0])) else none:=(fun x=>x) rfl
theorem q6g {t elem:TypeId} {x:Operand} {parts:Array (Nat × Operand)} {size:Nat} {z:T} (hgr:pol.grow f (o.dst.getD 0)=true) (ho:o.op=.buildSlice t 1 parts) (hp:parts.toList=[(0,x)]) (ht:typ P t=some (.slice elem)) (hs:szOf P elem=some size) (hz:zeroOf P elem=some z)
  (h1:(decide (size≠0) && decide (1*size≤16777216) && decide ((AV.t z).cells.length=size) && storableAll (AV.t z).cells)=true):iStep P pol f e h (.raw o)=bgB size h (rhoF pol e x):=by
 simp only [Bool.and_eq_true,decide_eq_true_eq] at h1
 obtain ⟨⟨⟨h1,h2⟩,h3⟩,h4⟩:=h1
 have hc:¬ (size=0∨16777216 < 1*size∨(AV.t z).cells.length≠size∨storableAll (AV.t z).cells=false):=by
  rintro (k|k|k|k)
  ·exact h1 k
  ·omega
  ·exact k h3
  ·rw [h4] at k; cases k
 show aOp P pol f (rhoF pol e) h o=_
 simp only [aOp,ho,ht,hs,hz,hp,hc,if_false,zipT,hgr,Bool.or_true,Bool.not_true,List.replicate_succ,List.replicate_zero,fillElems,List.length_cons,List.length_nil,List.set_cons_zero,bgB,List.map_cons,List.map_nil]
 by_cases hv:(rhoF pol e x).cells.length=size∧storableAll (rhoF pol e x).cells=true
 ·rw [if_pos ⟨hv.1,by omega,by omega,hv.2⟩,if_pos hv]
 ·rw [if_neg (fun k=>hv ⟨k.1,k.2.2.2⟩),if_neg hv]
def bxG (size:Nat) (h:Heap):AV→Option Res
 | .t (.sc (.slice none 0 0))=>some (.val (.ref (h.length+1) 1 0 0) (h++[.row size [] 0,.row 1 [.ms h.length 0 0 0 size false] 0]))
 | y=>if storableAll y.cells && !y.cells.isEmpty then some (.val (.ref h.length 1 0 0) (h++[.row y.cells.length [y] 0])) else none
theorem qfo {size:Nat}:bxG size h (.t (.sc (.slice none 0 0)))=some (.val (.ref (h.length+1) 1 0 0) (h++[.row size [] 0,.row 1 [.ms h.length 0 0 0 size false] 0])):=(fun x=>x) rfl
theorem qfp {t elem:TypeId} {x:Operand} {size:Nat} (hgr:pol.grow f (o.dst.getD 0)=true) (ho:o.op=.box t x) (ht:typ P t=some (.slice elem)) (hs:szOf P elem=some size):iStep P pol f e h (.raw o)=bxG size h (rhoF pol e x):=by
 show aOp P pol f (rhoF pol e) h o=_
 simp only [aOp,ho,ht,hgr,if_true]
 generalize rhoF pol e x=v
 by_cases hv:v=.t (.sc (.slice none 0 0))
 ·subst hv
  simp only [hs,bxG]
 ·have e2:bxG size h v=if storableAll v.cells && !v.cells.isEmpty then some (.val (.ref h.length 1 0 0) (h++[.row v.cells.length [v] 0])) else none:=by
   unfold bxG
   split
   ·exact absurd rfl hv
   ·rfl
  rw [e2]
  split
  ·exact absurd rfl hv
  ·rfl
def mkSl (size bytes:Nat) (z:T) (h:Heap):Option Nat→Option Nat→Option Res
 | some n,some m=>if n≤m∧bytes*m≤roomB∧m≤9223372036854775807 then some (.val (.ms h.length n 0 n size (decide (n=m))) (h++[.row size (List.replicate n (.t z)) 0])) else none
 | _,_=>none
theorem qfq {size bytes n m:Nat} {z:T}:mkSl size bytes z h (some n) (some m)=if n≤m∧bytes*m≤roomB∧m≤9223372036854775807 then some (.val (.ms h.length n 0 n size (decide (n=m))) (h++[.row size (List.replicate n (.t z)) 0])) else none:=(fun x=>x) rfl
theorem q6h {t elem:TypeId} {l c:Operand} {size bytes:Nat} {z:T} (hgr:pol.grow f (o.dst.getD 0)=false) (ho:o.op=.makeSlice t l c) (ht:typ P t=some (.slice elem)) (hs:szOf P elem=some size) (hb:byOf P elem=some bytes) (hz:zeroOf P elem=some z)
  (h1:(decide (size≠0) && decide ((AV.t z).cells.length=size) && storableAll (AV.t z).cells)=true):iStep P pol f e h (.raw o)=mkSl size bytes z h (asNat (rhoF pol e l)) (asNat (rhoF pol e c)):=by
 simp only [Bool.and_eq_true,decide_eq_true_eq] at h1
 show aOp P pol f (rhoF pol e) h o=_
 simp only [aOp,ho,ht,hs,hb,hz]
 cases asNat (rhoF pol e l) with
 | none=>rfl
 | some n =>
  cases asNat (rhoF pol e c) with
  | none=>rfl
  | some m=>simp only [mkSl,h1.1.1,h1.1.2,h1.2,ne_eq,not_false_eq_true,true_and,hgr,Bool.false_eq_true,if_false]
def mkSlT (size bytes:Nat) (z:T) (h:Heap):Option Nat→Option Nat→Option Res
 | some n,some m=>if n≤m∧bytes*m≤roomB∧m≤9223372036854775807 then (if n=m then some (.val (.t (.sl true size (List.replicate n z))) h) else none) else none
 | _,_=>none
theorem qfr {size bytes n m:Nat} {z:T}:mkSlT size bytes z h (some n) (some m)=if n≤m∧bytes*m≤roomB∧m≤9223372036854775807 then (if n=m then some (.val (.t (.sl true size (List.replicate n z))) h) else none) else none:=(fun x=>x) rfl
def cpB (size e i len k o:Nat) (xs:List AV) (h:Heap):Option AObj→Option Res
 | some (.row k2 elems mr)=>if e=elems.length∧i+len≤e∧k=size∧k2=size∧mr≤e then
   some (.val (.t (.sc (.int .i64 (min xs.length len:Nat)))) (h.set o (.row size (elems.take i++xs.take (min xs.length len)++elems.drop (i+min xs.length len)) e))) else none
 | _=>none
def cpD (size:Nat) (xs:List AV) (h:Heap):AV→Option Res
 | .ms o e i len k _=>cpB size e i len k o xs h (h[o]?)
 | .t (.sc (.slice none 0 0))=>some (.val (.t (.sc (.int .i64 0))) h)
 | .t (.sl _ _ [])=>some (.val (.t (.sc (.int .i64 0))) h)
 | _=>none
def cpA (size:Nat) (d:AV) (h:Heap):Option (List AV)→Option Res
 | some xs=>cpD size xs h d
 | none=>none
theorem qfs {size:Nat} {d:AV} {xs:List AV}:cpA size d h (some xs)=cpD size xs h d:=(fun x=>x) rfl
theorem qft {size o e i len k:Nat} {c:Bool} {xs:List AV}:cpD size xs h (.ms o e i len k c)=cpB size e i len k o xs h (h[o]?):=(fun x=>x) rfl
def grS (l:List (Nat × Nat)) (h:Heap):Option (List AV)→Option Res
 | some cs=>if storableAll cs then some (.val (.ref (h.length+l.length) 1 0 0) (h++(growRows l++[.row cs.length [.agg cs] 0]))) else none
 | none=>none
theorem qfu {l:List (Nat × Nat)} {cs:List AV}:grS l h (some cs)=if storableAll cs then some (.val (.ref (h.length+l.length) 1 0 0) (h++(growRows l++[.row cs.length [.agg cs] 0]))) else none:=(fun x=>x) rfl
def grB (n off s:Nat) (r:List (Nat × Nat)) (cs:List AV):Option AV→Option (List AV)
 | some (.t (.sc (.slice none 0 0)))=>growAV (n+1) r (cs.set off (.ms n 0 0 0 s false))
 | _=>none
theorem qfv {n off s:Nat} {r:List (Nat × Nat)} {cs:List AV}:grB n off s r cs (some (.t (.sc (.slice none 0 0))))=growAV (n+1) r (cs.set off (.ms n 0 0 0 s false)):=(fun x=>x) rfl
theorem qfw {n:Nat} {cs:List AV}:growAV n [] cs=some cs:=(fun x=>x) rfl
theorem qfx {n off s:Nat} {r:List (Nat × Nat)} {cs:List AV}:growAV n ((off,s)::r) cs=grB n off s r cs (cs[off]?):=by
 simp only [growAV,grB]
 split <;> simp_all
theorem qfy:growRows []=[]:=(fun x=>x) rfl
theorem qfz {off s:Nat} {r:List (Nat × Nat)}:growRows ((off,s)::r)=.row s [] 0::growRows r:=(fun x=>x) rfl
def growT (P:Program) (t:TypeId):Option (List (Nat × Nat)):=match typ P t with
 | some (.struct fields)=>growL P fields.toList
 | _=>none
theorem q6i {t:TypeId} {zs:List T} {l:List (Nat × Nat)} (ho:o.op=.alloc t) (hg:pol.grow f (o.dst.getD 0)=true) (hz:zeroOf P t=some (.agg zs)) (hl:growT P t=some l) :
  iStep P pol f e h (.raw o)=grS l h (growAV h.length l (zs.map .t)):=by
 show aOp P pol f (rhoF pol e) h o=_
 unfold growT at hl
 split at hl
 ·rename_i fields ht
  simp only [aOp,ho,hg,if_true,hz,ht,hl]
  cases growAV h.length l (zs.map .t) <;> rfl
 ·cases hl
def kvE (off:Nat) (zs:List T):Option AV→AV
 | some old=>.agg (keepC (old.cells.drop off) (zs.map .t))
 | none=>.t (.agg zs)
def kvB (i off:Nat) (zs:List T):Option AObj→AV
 | some (.row _ es _)=>kvE off zs (es[i]?)
 | _=>.t (.agg zs)
theorem qfA {o q i off:Nat} {zs:List T}:keepV h (.ref o q i off) (.t (.agg zs))=kvB i off zs (h[o]?):=by
 simp only [keepV,kvB]
 cases h[o]? with
 | none=>rfl
 | some y=>cases y with
  | row k es mr=>simp only [kvE]; cases es[i]? <;> rfl
  | _=>rfl
def kaE (off:Nat) (cs:List AV):Option AV→AV
 | some old=>.agg (keepC (old.cells.drop off) cs)
 | none=>.agg cs
def kaB (i off:Nat) (cs:List AV):Option AObj→AV
 | some (.row _ es _)=>kaE off cs (es[i]?)
 | _=>.agg cs
theorem qfB {o q i off:Nat} {cs:List AV}:keepV h (.ref o q i off) (.agg cs)=kaB i off cs (h[o]?):=by
 simp only [keepV,kaB]
 cases h[o]? with
 | none=>rfl
 | some y=>cases y with
  | row k es mr=>simp only [kaE]; cases es[i]? <;> rfl
  | _=>rfl
theorem qfC {i off k mr:Nat} {cs:List AV} {es:List AV}:kaB i off cs (some (.row k es mr))=kaE off cs (es[i]?):=(fun x=>x) rfl
theorem qfD {off:Nat} {cs:List AV} {old:AV}:kaE off cs (some old)=.agg (keepC (old.cells.drop off) cs):=(fun x=>x) rfl
theorem qfE {i off k mr:Nat} {zs:List T} {es:List AV}:kvB i off zs (some (.row k es mr))=kvE off zs (es[i]?):=(fun x=>x) rfl
theorem qfF {off:Nat} {zs:List T} {old:AV}:kvE off zs (some old)=.agg (keepC (old.cells.drop off) (zs.map .t)):=(fun x=>x) rfl
theorem qfG {ns:List AV}:keepC [] ns=ns:=(fun x=>x) rfl
theorem kc_ms {o s:Nat} {c:Bool} {os ns:List AV}:keepC (.ms o 0 0 0 s c::os) (.t (.sc (.slice none 0 0))::ns)=.ms o 0 0 0 s c::keepC os ns:=(fun x=>x) rfl
theorem kc_mm {o s o' q' i' l' k':Nat} {c c':Bool} {os ns:List AV}:keepC (.ms o 0 0 0 s c::os) (.ms o' q' i' l' k' c'::ns)=.ms o' q' i' l' k' c'::keepC os ns:=(fun x=>x) rfl
theorem kc_ml {o s k:Nat} {c c':Bool} {xs:List T} {os ns:List AV}:keepC (.ms o 0 0 0 s c::os) (.t (.sl c' k xs)::ns)=.t (.sl c' k xs)::keepC os ns:=(fun x=>x) rfl
theorem kc_t {x:T} {n:AV} {os ns:List AV}:keepC (.t x::os) (n::ns)=n::keepC os ns:=(fun x=>x) rfl
theorem qfH {t:TypeId} {a x:Operand} {n:Nat} (ho:o.op=.store t a x) (hk:keepAt P pol f t x=true) (hn:szOf P t=some n):iStep P pol f e h (.raw o)=hOf (iStore n (rhoF pol e a) (keepV h (rhoF pol e a) (rhoF pol e x)) h):=by
 show aOp P pol f (rhoF pol e) h o=_
 have hk2:nilAt P pol f t a x=none:=by
  unfold keepAt at hk
  unfold nilAt
  split at hk
  ·cases a <;> rfl
  ·cases hk
 simp only [aOp,ho,keepX,hk2,hk,if_true,q5F]
 rw [q5I hn]
 rfl
theorem qfI {s o q i off:Nat}:nilV s (.ref o q i off) (.t (.sc (.slice none 0 0)))=.ms (o - 1) 0 0 0 s false:=(fun x=>x) rfl
def lenM:Option AObj→Option AV
 | some (.map es)=>some (.t (.sc (.int .i64 es.length)))
 | _=>none
def lenMV (h:Heap):AV→Option AV
 | .mp o=>lenM (h[o]?)
 | _=>none
theorem qfJ {es:List (Value × AV)}:lenM (some (.map es))=some (.t (.sc (.int .i64 es.length))):=(fun x=>x) rfl
theorem qfK {o:Nat}:lenMV h (.mp o)=lenM (h[o]?):=(fun x=>x) rfl
def lkV (P:Program) (t:TypeId) (ok:Bool) (h:Heap) (x ix:AV):Option AV:=aLookup P t x ix ok h
def kP (h:Heap):Option T→Option (AV × Heap)
 | some r=>if r.plain then some (.t r,h) else none
 | none=>none
def callS (K:Oracle) (I:Inl) (g:FuncId) (args:List AV) (h:Heap):Option (List T)→Option (AV × Heap)
 | some ts=>kP h (K g ts)
 | none=>I (.fn g) args h
theorem qfL {r:T}:kP h (some r)=if r.plain then some (.t r,h) else none:=(fun x=>x) rfl
theorem qfM {g:FuncId} {args:List AV} {ts:List T}:callS K I g args h (some ts)=kP h (K g ts):=(fun x=>x) rfl
theorem qfN {g:FuncId} {args:List AV}:callS K I g args h none=I (.fn g) args h:=(fun x=>x) rfl
theorem qfO {g:FuncId} {args:List AV}:callT K I g args h none=callS K I g args h (mapO (snap h allObj 20) args):=by
 simp only [callT,callS]
 cases mapO (snap h allObj 20) args with
 | none=>rfl
 | some ts=>simp only [kP]; cases K g ts <;> rfl
def scAll:List T→Bool
 | []=>true
 | .sc _::r=>scAll r
 | _::_=>false
theorem qfP:scAll []=true:=(fun x=>x) rfl
theorem qfQ {v:Value} {r:List T}:scAll (.sc v::r)=scAll r:=(fun x=>x) rfl
theorem q6j (cs:List T):(cs.all fun|.sc _=>true|_=>false)=scAll cs:=by
 induction cs with
 | nil=>rfl
 | cons c cs ih=>cases c <;> simp [scAll,List.all_cons,ih]
theorem qfR {v:Value}:(T.sc v).plain=true:=(fun x=>x) rfl
theorem qfS {cs:List T}:(T.agg cs).plain=scAll cs:=by simp only [T.plain]; exact q6j cs
def plAll:List T→Bool
 | []=>true
 | x::r=>(match x with|.sc _=>true|.agg cs=>scAll cs|_=>false) && plAll r
theorem qfT:plAll []=true:=(fun x=>x) rfl
theorem qfU {v:Value} {r:List T}:plAll (.sc v::r)=plAll r:=by simp [plAll]
theorem qfV {cs r:List T}:plAll (.agg cs::r)=(scAll cs && plAll r):=by simp [plAll]
theorem qfW {vs:List T}:(T.tup vs).plain=plAll vs:=by
 simp only [T.plain]
 induction vs with
 | nil=>rfl
 | cons c cs ih =>
  simp only [List.all_cons,plAll,ih]
  cases c with
  | agg xs=>exact congrArg (fun b=>b && plAll cs) (q6j xs)
  | _=>rfl
def snR (h:Heap) (d off:Nat):Option AV→Option T
 | some v=>snO off (mapO (snap h allObj d) v.cells)
 | none=>none
where snO (off:Nat):Option (List T)→Option T
 | some ts=>some (.ip (ts.drop off))
 | none=>none
theorem qfX {off:Nat} {ts:List T}:snR.snO off (some ts)=some (.ip (ts.drop off)):=(fun x=>x) rfl
theorem qfY {d off:Nat} {v:AV}:snR h d off (some v)=snR.snO off (mapO (snap h allObj d) v.cells):=(fun x=>x) rfl
theorem qfZ {d o q i off:Nat}:snap h allObj (d+1) (.ref o q i off)=snR h d off (rowAt h o q i):=by
 simp only [snap,snR,allObj,if_true]
 cases rowAt h o q i with
 | none=>rfl
 | some v=>simp only [snR.snO]; cases mapO (snap h (fun _=>true) d) v.cells <;> rfl
theorem sn_mp {d o:Nat}:snap h allObj (d+1) (.mp o)=none:=(fun x=>x) rfl
theorem qg0 {r:Option (List T)}:consT r none=none:=(fun x=>x) rfl
theorem nm_t {x:T}:names (.t x)=[]:=by simp [names]
theorem qg1 {o q i k:Nat}:names (.ref o q i k)=[o]:=by simp [names]
theorem nm_ms {o q i l k:Nat} {c:Bool}:names (.ms o q i l k c)=[o]:=by simp [names]
theorem nm_mp {o:Nat}:names (.mp o)=[o]:=by simp [names]
theorem qg2 {cs:List AV}:names (.agg cs)=namesAll cs:=by simp [names]
theorem nm_fn {g:Fn} {a b:List AV}:names (.fn g a b)=namesAll a++namesAll b:=by simp [names]
theorem q6k:namesAll []=[]:=by simp [namesAll]
theorem q6l {v:AV} {r:List AV}:namesAll (v::r)=names v++namesAll r:=by simp [namesAll]
theorem qg3 {xs:List T}:namesAll (xs.map .t)=[]:=by
 induction xs with
 | nil=>exact q6k
 | cons x xs ih=>rw [List.map_cons,q6l,nm_t,ih]; rfl
theorem q6m {k mr:Nat} {es:List AV}:namesObj (some (.row k es mr))=namesAll es:=(fun x=>x) rfl
def reachB (h:Heap) (d:Nat):List Nat→List Nat
 | []=>[]
 | x::l=>reach h d (x::l)
theorem qg4 {d:Nat}:reachB h d []=[]:=(fun x=>x) rfl
theorem qg5 {d x:Nat} {l:List Nat}:reachB h d (x::l)=reach h d (x::l):=(fun x=>x) rfl
theorem qg6 {d:Nat} {os:List Nat}:reach h (d+1) os=os++reachB h d (os.flatMap (fun o=>namesObj h[o]?)):=by
 simp only [reach]
 cases os.flatMap (fun o=>namesObj h[o]?) <;> rfl
def fzB (os:List Nat) (e:FEnv) (h:Heap):Option Heap→Option (FEnv × Heap)
 | some h'=>some (frzF h (fun o=>os.contains o) e,h')
 | none=>none
theorem q3J {os:List Nat} {h':Heap}:fzB os e h (some h')=some (frzF h (fun o=>os.contains o) e,h'):=(fun x=>x) rfl
theorem q3K {os:List Nat}:freezeF os e h=fzB os e h (goneOf h (fun o=>os.contains o) 0 h):=by
 simp only [freezeF,fzB]
 cases goneOf h (fun o=>os.contains o) 0 h <;> rfl
theorem qg7 {p:Nat→Bool} {i:Nat}:goneOf h p i []=some []:=(fun x=>x) rfl
theorem q6n {p:Nat→Bool} {i:Nat} {x:AObj} {r:Heap}:goneOf h p i (x::r)=consHO (goneOf h p (i+1) r) (if p i then some .gone else frzObj h p x):=by
 simp only [goneOf]
 cases (if p i then some AObj.gone else frzObj h p x) <;> cases goneOf h p (i+1) r <;> rfl
def tO:Option T→Option AV
 | some x=>some (.t x)
 | none=>none
theorem qg8 {x:T}:tO (some x)=some (.t x):=(fun x=>x) rfl
def snRp (h:Heap) (p:Nat→Bool) (d off:Nat):Option AV→Option T
 | some v=>snR.snO off (mapO (snap h p d) v.cells)
 | none=>none
theorem qg9 {p:Nat→Bool} {d off:Nat} {v:AV}:snRp h p d off (some v)=snR.snO off (mapO (snap h p d) v.cells):=(fun x=>x) rfl
theorem qga {p:Nat→Bool} {o q i k:Nat} (ho:p o=true):frz h p (.ref o q i k)=tO (snRp h p 19 k (rowAt h o q i)):=by
 simp only [frz,frzCell,avoid,ho,Bool.not_true,Bool.false_eq_true,if_false,snap,if_true]
 cases rowAt h o q i with
 | none=>rfl
 | some v=>simp only [snRp,snR.snO]; cases mapO (snap h p 19) v.cells <;> rfl
theorem snp_t {p:Nat→Bool} {d:Nat} {x:T}:snap h p d (.t x)=some x:=by cases d <;> rfl
theorem qgb {p:Nat→Bool} {d:Nat}:mapO (snap h p d) []=some []:=(fun x=>x) rfl
theorem q6o {p:Nat→Bool} {d:Nat} {x:AV} {l:List AV}:mapO (snap h p d) (x::l)=consT (mapO (snap h p d) l) (snap h p d x):=by
 simp only [mapO]
 cases snap h p d x <;> cases mapO (snap h p d) l <;> rfl
theorem q6p {p:Nat→Bool} {d:Nat} {xs:List T}:mapO (snap h p d) (xs.map .t)=some xs:=by
 induction xs with
 | nil=>rfl
 | cons x xs ih=>rw [List.map_cons,q6o,ih,snp_t,q3G,q3B]
theorem qgc {l:List Nat} {o:Nat}:inL l o=l.contains o:=(fun x=>x) rfl
theorem qgd {p:Nat→Bool} {d:Nat} {cs:List AV}:snap h p (d+1) (.agg cs)=snA (mapO (snap h p d) cs):=by
 simp only [snap]
 cases mapO (snap h p d) cs <;> rfl
theorem qge {g:FuncId} {a b:List AV} {x:Option (List T)}:fnB g a b x none=.fn (.func g) a b:=by cases x <;> rfl
theorem qgf {g:FuncId} {a b:List AV} {x:Option (List T)}:fnB g a b none x=.fn (.func g) a b:=by cases x <;> rfl
theorem qgg {crit:List (Nat × Nat)} {ts:List (Option (List Nat))} {Q:Prop} (h1:critOk crit ts=true) (h2:Q):critOk crit ts=true∧Q:=⟨h1,h2⟩
theorem q0i {g:FuncId} {nt:Nat} {c:C} {rs:List (Nat × Option (Bool × Nat))} {args:List AV} {d:Nat} {k:AV→Heap→Prop} (hF:cFn P pol g=some ⟨nt,c,rs⟩) (hl:args.length≤nt)
  (hw:wc P pol K (inl P pol K n d) n g c (endK rs k) (envOf args) h):oB (inl P pol K n (d+1) (.fn g) args h) k:=by
 obtain ⟨v,h',h1,h2⟩:=qdj hF hl hw
 rw [h1]
 exact h2
end Go.Abs
