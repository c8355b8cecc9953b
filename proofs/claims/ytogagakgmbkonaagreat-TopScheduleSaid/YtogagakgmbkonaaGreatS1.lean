/- Part 1 of the proof of TopSchedule. -/
import GoSem.Step
import Derived.Laws.World
import Derived.Laws.Sem
import Derived.RangeFuncLeaves
import Derived.Laws.Tables
import Derived.ChangeKeysEq
import Derived.RangeFuncRecord
import Derived.Laws.Append
import Derived.Laws.IdiomStrings
set_option linter.all false
set_option maxRecDepth 100000
set_option maxHeartbeats 4000000
namespace Go
abbrev bH:=@Nat.le_of_ble_eq_true
abbrev cD:=@List.getElem?_eq_some_iff
abbrev bA:=@decide_eq_false
abbrev bJ:=@List.length_map
abbrev bY:=@decide_eq_true
abbrev bP:=@Nat.le_refl
abbrev fv:=@List.getElem?_append_left
abbrev fC:=@List.getElem?_eq_getElem
abbrev dS:=@List.cons_append
abbrev a2:=@if_neg
abbrev eE:=@List.getElem?_map
abbrev a6:=@if_pos
abbrev g5:=@List.getElem?_append_right
abbrev ea:=@List.nil_append
abbrev fJ:=@Bool.false_eq_true
abbrev gp:=@List.mem_of_getElem?
abbrev fe:=@Bool.and_eq_true
abbrev fU:=@List.append_assoc
abbrev gT:=@List.length_append
abbrev jZ:=@Int.tmod_eq_emod_of_nonneg
abbrev ic:=@List.length_replicate
abbrev iv:=@List.getElem?_set_ne
abbrev ho:=@decide_eq_true_eq
abbrev jB:=@Nat.mul_le_mul_right
abbrev cQ:=@if_true
abbrev hp:=@List.mem_append
abbrev kb:=@List.getElem?_eq_none
abbrev gz:=@List.map_cons
abbrev lG:=@List.getElem?_cons_zero
abbrev jc:=@List.length_cons
abbrev l7:=@List.getElem?_set_self
abbrev l8:=@List.take_of_length_le
abbrev et:=@if_false
abbrev mH:=@Option.map_eq_some_iff
abbrev kA:=@List.mem_singleton
abbrev ka:=@of_decide_eq_true
abbrev jY:=@List.all_eq_true
abbrev oi:=@decide_eq_false_iff_not
abbrev iu:=@List.mem_cons
abbrev ld:=@Int.toNat_natCast
abbrev l4:=@List.getElem?_take
abbrev l5:=@Int.emod_lt_of_pos
abbrev pA:=@List.getElem?_cons_succ
abbrev qU:=@List.getD_eq_getElem?_getD
abbrev r6:=@Array.getD_eq_getD_getElem?
abbrev nF:=@List.getElem?_drop
abbrev lF:=@List.length_nil
abbrev mG:=@List.not_mem_nil
abbrev s6:=@Array.getElem?_eq_some_iff
abbrev na:=@Option.getD_some
abbrev pB:=@List.replicate_succ
abbrev l6:=@List.drop_zero
abbrev oO:=@List.getElem?_set
abbrev s7:=@List.getElem?_replicate
abbrev kP:=@Nat.le_trans
abbrev nG:=@Int.emod_nonneg
abbrev pC:=@Bool.not_eq_true'
abbrev oP:=@List.getElem_mem
abbrev qV:=@List.take_succ_cons
abbrev oj:=@List.append_nil
abbrev s8:=@Array.getElem?_toList
abbrev sZ:=@List.range_eq_range'
abbrev yZ:=@Array.getElem?_setIfInBounds
abbrev r1:=@of_decide_eq_false
abbrev lE:=@Nat.add_mul
abbrev y0:=@List.getElem?_concat_length
abbrev p8:=@List.foldl_cons
abbrev r2:=@List.mem_range'_1
abbrev r3:=@List.take_add_one
abbrev nB:=@List.map_nil
abbrev nC:=@Nat.sub_self
abbrev nD:=@Nat.zero_add
abbrev nE:=@List.mem_map
abbrev vy:=@List.length_singleton
abbrev uw:=@Int.toNat_of_nonneg
abbrev r4:=@List.length_take
abbrev oh:=@Nat.succ_mul
abbrev vz:=@List.getElem?_append
abbrev w6:=@List.mem_iff_getElem?
abbrev r5:=@Option.map_some
abbrev s4:=@List.take_length
abbrev mF:=@Nat.mod_lt
abbrev qT:=@Bool.not_false
abbrev y5:=@List.drop_of_length_le
abbrev y6:=@List.mem_append_right
abbrev w7:=@Nat.lt_of_lt_of_le
abbrev w8:=@List.set_cons_succ
abbrev s5:=@Int.mul_nonneg
abbrev ux:=@List.map_append
abbrev uy:=@Bool.or_eq_true
abbrev uz:=@List.set_append
abbrev uA:=@List.length_set
abbrev uB:=@Int.ediv_nonneg
abbrev vA:=@List.range'_succ
abbrev C8:=@Classical.byContradiction
abbrev F1:=@List.eq_nil_of_length_eq_zero
abbrev AR:=@List.length_filter_le
abbrev AM:=@List.set_append_right
abbrev uo:=@Int.mul_le_mul
abbrev FY:=@Int.lt_ediv_add_one_mul_self
abbrev AN:=@List.mem_append_left
abbrev w5:=@Int.natCast_emod
abbrev mE:=@or_false
abbrev uq:=@Nat.add_assoc
abbrev ur:=@Bool.true_and
abbrev uu:=@Bool.and_self
abbrev y1:=@List.ext_getElem?
abbrev s0:=@Nat.add_zero
abbrev s3:=@Nat.mul_comm
abbrev vv:=@List.mem_range
abbrev vw:=@Bool.false_and
abbrev FZ:=@Int.tdiv_eq_ediv_of_nonneg
abbrev C6:=@List.take_append_drop
abbrev AO:=@List.set_cons_zero
abbrev y2:=@decide_eq_decide
abbrev y3:=@List.take_append
abbrev vx:=@Bool.not_true
abbrev C7:=@List.mem_of_mem_take
abbrev F0:=@Nat.gcd_pos_of_pos_left
abbrev y4:=@List.range_succ
abbrev uv:=@Nat.zero_le
abbrev AP:=@Option.bind_some
abbrev AQ:=@Int.ediv_le_self
abbrev F2:=@Array.getElem?_modify
abbrev F3:=@Nat.div_lt_iff_lt_mul
abbrev JV:=@List.mem_or_eq_of_mem_set
abbrev AS:=@List.nodup_cons
abbrev AT:=@List.mem_filter
abbrev ON:=@Array.all_eq_true_iff_forall_mem
abbrev C9:=@List.flatMap_cons
abbrev F4:=@Int.emod_emod_of_dvd
abbrev F5:=@List.pairwise_append
abbrev y7:=@List.map_take
abbrev y8:=@List.sum_cons
abbrev OT:=@Array.getElem?_setIfInBounds_ne
abbrev Gc:=@List.getElem_of_mem
abbrev Gd:=@List.replicate_zero
abbrev Ge:=@List.drop_succ_cons
abbrev Da:=@Nat.mod_eq_of_lt
abbrev AV:=@List.take_zero
abbrev OU:=@Int.mul_le_mul_of_nonneg_right
abbrev J5:=@List.pairwise_singleton
abbrev w9:=@Nat.mul_one
abbrev vB:=@Array.ext'
abbrev y9:=@List.map_set
abbrev Gf:=@Int.lt_tmod_of_pos
abbrev Gg:=@List.countP_append
abbrev Db:=@Bool.eq_iff_iff
abbrev Dc:=@Int.ediv_mul_le
abbrev J6:=@List.countP_singleton
abbrev Dd:=@List.mapM_cons
abbrev J7:=@Bool.or_eq_false_iff
abbrev J8:=@List.getElem?_mapIdx
abbrev J9:=@Array.toArray_toList
abbrev OV:=@Int.sub_mul_emod_self_left
abbrev Ka:=@List.getElem?_of_mem
abbrev Kb:=@List.mem_cons_of_mem
abbrev za:=@Int.add_mul
abbrev zb:=@Int.one_mul
abbrev F6:=@List.filter_cons
abbrev F7:=@Bool.not_eq_true
abbrev OO:=@Array.getElem?_eq_getElem
abbrev OP:=@List.pairwise_iff_getElem
abbrev JW:=@Array.length_toList
abbrev JX:=@List.mem_map_of_mem
abbrev F8:=@Nat.div_add_mod
abbrev JY:=@Int.tmod_lt_of_pos
abbrev JZ:=@List.findIdx?_cons
abbrev J0:=@List.filter_append
abbrev OQ:=@Int.natCast_dvd_natCast
abbrev WN:=@List.set_eq_take_append_cons_drop
abbrev J1:=@Int.emod_eq_of_lt
abbrev J2:=@List.foldl_append
abbrev OR:=@Array.getElem?_append
abbrev OS:=@List.contains_iff_mem
abbrev AU:=@beq_iff_eq
abbrev J3:=@List.length_drop
abbrev F9:=@List.map_drop
abbrev Ga:=@List.all_cons
abbrev Gb:=@Bool.false_or
abbrev WO:=@List.drop_append_of_le_length
abbrev WQ:=@List.take_append_of_le_length
abbrev WR:=@Int.mul_le_mul_of_nonneg_left
abbrev J4:=@Nat.min_eq_left
abbrev WS:=@List.dropLast_concat_getLast
abbrev Kc:=@Int.natCast_add
abbrev OW:=@List.map_congr_left
abbrev OX:=@List.length_pos_iff
abbrev Gh:=@Nat.add_comm
abbrev Gi:=@List.map_map
abbrev OY:=@Option.isSome_none
abbrev OZ:=@Array.foldl_toList
abbrev Kd:=@List.drop_drop
abbrev zc:=@true_and
abbrev O0:=@Option.isSome_some
abbrev WT:=@Int.ediv_neg_of_neg_of_pos
abbrev WU:=@List.nodup_iff_pairwise_ne
abbrev WV:=@Int.lt_of_mul_lt_mul_right
abbrev Kh:=@List.foldl_nil
abbrev WW:=@Array.mapM_eq_mapM_toList
abbrev WX:=@List.drop_eq_getElem_cons
abbrev WY:=@Int.eq_of_mul_eq_mul_left
abbrev Pa:=@List.nodup_append
abbrev Pb:=@not_false_eq_true
abbrev Pc:=@List.length_range
abbrev Gl:=@Int.le_refl
abbrev Pd:=@Bool.eq_false_iff
abbrev Pe:=@List.any_eq_false
abbrev Ki:=@Bool.and_true
abbrev WZ:=@List.eq_of_mem_replicate
abbrev Kj:=@Int.mul_assoc
abbrev Kk:=@List.any_cons
abbrev Pf:=@Nat.le_of_not_lt
abbrev Pg:=@Nat.min_eq_right
abbrev Ph:=@List.flatMap_nil
abbrev AW:=@and_true
abbrev Pj:=@Nat.gcd_dvd_left
abbrev Pk:=@Int.natCast_ediv
abbrev Pl:=@Int.ediv_le_ediv
abbrev W0:=@List.getLast?_singleton
abbrev Pm:=@List.any_eq_true
abbrev O1:=@List.mem_flatMap
abbrev O2:=@Int.dvd_mul_left
abbrev Ke:=@Bool.true_or
abbrev Kf:=@Int.le_trans
abbrev Kg:=@Int.sub_emod
abbrev O3:=@Nat.gcd_le_left
abbrev O4:=@Option.map_none
abbrev O5:=@List.sum_append
abbrev O6:=@List.foldr_cons
abbrev O7:=@Bool.and_false
abbrev O8:=@Nat.mul_le_mul
abbrev Gj:=@and_assoc
abbrev O9:=@Int.zero_emod
abbrev Gk:=@and_self
end Go
/- The abstract evaluator: values as trees,a small heap of mutable objects,an oracle for pure calls. Nothing here speaks of the machine; the soundness is in the next texts. -/
namespace Go.Abs
open Go
inductive T where
 | aA (v:Value)
 | agg (cells:List T)
 | aP (clip:Bool) (k:Nat) (elems:List T)
 | ip (cells:List T)
 | fn (f:Fn) (first captured:List T)
 | ch (vs:List T)
 deriving Inhabited
inductive ah where
 | t (x:T)
 | agg (cells:List ah)
 | ch (vs:List ah)
 | ref (o e i off:Nat)
 | ms (o e i len k:Nat) (clip:Bool)
 | mp (o:Nat)
 | bF (o:Nat)
 | fn (f:Fn) (first captured:List ah)
 | dead
 deriving Inhabited
inductive a9 where
 | row (k:Nat) (elems:List ah) (aG:Nat)
 | map (entries:List (Value × ah))
 | loop (f:FuncId) (env:List ah) (params:List Tmp) (assign body:Code) (busy:Bool) (pending:Option Code)
 | gone
 deriving Inhabited
abbrev Env:=List ah
abbrev aj:=List a9
structure c4 where
 IL:FuncId→Tmp→Bool
 grow:FuncId→Tmp→Bool
 inl:FuncId→FuncId→Tmp→Bool
 dV:FuncId→Tmp→Bool
 live:FuncId→Nat→Option (List Tmp)
 fj:FuncId→Nat→List (Nat × Nat)
 gK:Nat→Option T
 u6:FuncId→Bool:=fun _=>false
 Jb:FuncId→List T→Option T:=fun _ _=>none
 fresh:FuncId→FuncId→Tmp→Bool:=fun _ _ _=>false
 M0:FuncId→Nat→Bool:=fun _ _=>false
 trim:FuncId→Bool:=fun _=>false
 lq:FuncId→Bool:=fun _=>false
def T.cells:T→List T
 | .agg cs=>cs
 | x=>[x]
def ah.cells:ah→List ah
 | .t (.agg cs)=>cs.map .t
 | .agg cs=>cs
 | .dead=>[]
 | v=>[v]
def e6:List ah→Option (List T)
 | []=>some []
 | .t x::r=>match e6 r with
  | some xs=>some (x::xs)
  | none=>none
 | _::_=>none
def kJ(cs:List ah):ah :=
 match e6 cs with
 | some aq=>.t (.agg aq)
 | none=>.agg cs
def oC(cs:List ah):ah :=
 match e6 cs with
 | some aq=>.t (.ch aq)
 | none=>.ch cs
def I7:Value→Bool
 | .agg _=>false
 | _=>true
def iL:Value→Bool
 | .agg cs=>cs.toList.all I7
 | _=>true
def fb:Value→T
 | .agg cs=>.agg (cs.toList.map .aA)
 | v=>.aA v
def yA:List T→Option (List Value)
 | []=>some []
 | .aA v::r=>match yA r with
  | some vs=>some (v::vs)
  | none=>none
 | _::_=>none
def T.val?:T→Option Value
 | .aA v=>some v
 | .agg cs=>match yA cs with
  | some vs=>some (.agg vs.toArray)
  | none=>none
 | _=>none
def ah.val?:ah→Option Value
 | .t x=>x.val?
 | _=>none
def jQ{α:Type}(P:Program):Sem α→Option α
 | .pure a=>some a
 | .program k=>jQ P (k P)
 | _=>none
def dB(P:Program)(t:TypeId):Option TypeDesc:=P.underlying t
def eM(P:Program)(t:TypeId):Option Nat:=match P.info? t with|some i=>some i.size|none=>none
def uD(P:Program)(t:TypeId):Option Nat:=match P.info? t with|some i=>some i.bytes|none=>none
def zeroOf(P:Program)(t:TypeId):Option T:=match P.info? t with|some i=>(match i.zero with|some v=>if iL v then some (fb v)else none|none=>none)|none=>none
def nJ(P:Program)(t:TypeId):Option Bool:=match P.underlying t with|some (.struct _)=>some true|some (.array _ _)=>some true|some _=>some false|none=>none
def tW(P:Program)(t:TypeId)(cs:List ah):Option ah :=
 match nJ P t,eM P t with
 | some true,some n=>if n≤cs.length then some (kJ (cs.take n))else none
 | some false,_=>cs.head?
 | _,_=>none
def tX(P:Program)(t:TypeId)(cs:List T):Option T :=
 match nJ P t,eM P t with
 | some true,some n=>if n≤cs.length then some (.agg (cs.take n))else none
 | some false,_=>cs.head?
 | _,_=>none
def ku(cs:List ah)(off:Nat)(vs:List ah):List ah:=cs.take off++vs++cs.drop (off+vs.length)
def pack(isAgg:Bool)(cs:List ah):ah :=
 match isAgg,cs with
 | false,[c]=>c
 | _,_=>kJ cs
def ah.isAgg:ah→Bool
 | .t (.agg _)=>true
 | .agg _=>true
 | _=>false
def mv:Value→Bool
 | .agg _=>false
 | .tuple _=>false
 | _=>true
def storable:ah→Bool
 | .t (.aA v)=>mv v
 | .t (.agg _)=>false
 | .t (.ch _)=>false
 | .t _=>true
 | .agg _=>false
 | .ch _=>false
 | .dead=>false
 | _=>true
def fX:List ah→Bool
 | []=>true
 | v::r=>storable v && fX r
def fill(place:Nat→Option (Nat × Nat))(cells:List ah):List (Nat × ah)→Option (List ah)
 | []=>some cells
 | (i,v)::rest =>
  match place i with
  | none=>none
  | some (off,size) =>
   if v.cells.length=size∧0<size∧off+size≤cells.length then fill place (ku cells off v.cells) rest else none
def se(size:Nat)(elems:List ah):List (Nat × ah)→Option (List ah)
 | []=>some elems
 | (i,v)::rest=>if v.cells.length=size∧0<size∧i<elems.length∧fX v.cells=true then se size (elems.set i v) rest else none
def asNat:ah→Option Nat
 | .t (.aA (.int _ n))=>if 0≤n then some n.toNat else none
 | _=>none
def hM(d:Nat):Option ah→Option Nat
 | none=>some d
 | some v=>asNat v
inductive sY where
 | fn (f:FuncId)
 | bF (o:Nat)
inductive g4 where
 | val (v:ah) (h:aj)
 | skip (h:aj)
 | call (g:sY) (args:List ah)
def rowAt(h:aj)(o e i:Nat):Option ah :=
 match h[o]? with
 | some (.row _ elems aG)=>if aG≤e∧i<e∧e≤elems.length then elems[i]? else none
 | _=>none
def gU(h:aj)(size:Nat):ah→Option (List ah)
 | .t (.aP _ _ [])=>some []
 | .t (.aP _ k (x::xs))=>if k=size then some ((x::xs).map .t)else none
 | .t (.aA (.slice _ 0 _))=>some []
 | .ms o e i len k _=>match h[o]? with
  | some (.row _ elems aG)=>if k=size∧aG≤e∧e≤elems.length∧i+len≤e then some ((elems.drop i).take len)else none
  | _=>none
 | _=>none
def lenOf:ah→Option Nat
 | .t (.aP _ _ xs)=>some xs.length
 | .t (.aA (.slice none 0 0))=>some 0
 | .ms _ _ _ len _ _=>some len
 | _=>none
def eQ:Nat:=140737488355328
def zeroCells(P:Program)(elem:TypeId):Option Nat:=match zeroOf P elem with|some z=>some (ah.t z).cells.length|none=>none
def AX(P:Program)(axN:TypeId)(s x:ah)(h:aj):Option (ah × aj) :=
 match dB P axN with
 | some (.slice elem) =>
  match eM P elem,uD P elem with
  | some size,some bytes =>
   match gU h size x with
   | some xs =>
    if size=0∨bytes=0∨zeroCells P elem≠some size then none else
    match s with
    | .t (.aA (.slice none 0 0)) =>
     match xs with
     | []=>some (s,h)
     | x::xs=>if(xs.length+1)*bytes≤eQ then some (.ms h.length (xs.length+1) 0 (xs.length+1) size false,h++[.row size (x::xs) 0])else none
    | .t (.aP true k ys) =>
     match xs with
     | []=>some (s,h)
     | x::xs=>if(ys.length+(xs.length+1))*bytes≤eQ∧(k=size∨ys=[])then
       some (.ms h.length (ys.length+(xs.length+1)) 0 (ys.length+(xs.length+1)) size false,h++[.row size (ys.map .t++(x::xs)) 0])else none
    | .ms o e i len k clip =>
     match xs with
     | []=>some (s,h)
     | x::xs =>
      match h[o]? with
      | some (.row aO elems aG) =>
       if(len+(xs.length+1))*bytes≤eQ∧k=size∧aO=size∧aG≤e∧i+len≤e∧e≤elems.length then
        if clip then
         some (.ms h.length (len+(xs.length+1)) 0 (len+(xs.length+1)) size false,h++[.row size ((elems.drop i).take len++(x::xs)) 0])
        else if i=0∧len=e∧e=elems.length then
         some (.ms o (e+(xs.length+1)) 0 (len+(xs.length+1)) size false,h.set o (.row size (elems++(x::xs)) aG))
        else if i=0∧len+(xs.length+1)≤e∧e=elems.length then
         some (.ms o e 0 (len+(xs.length+1)) size false,h.set o (.row size (elems.take len++(x::xs)++elems.drop (len+(xs.length+1))) e))
        else none
       else none
      | _=>none
    | _=>none
   | none=>none
  | _,_=>none
 | _=>none
def Gm(P:Program)(ajF:TypeId)(d s:ah)(h:aj):Option (ah × aj) :=
 match dB P ajF with
 | some (.slice elem) =>
  match eM P elem with
  | some size =>
   match gU h size s with
   | some xs =>
    if size=0 then none else
    match d with
    | .ms o e i len k _ =>
     match h[o]? with
     | some (.row aO elems aG) =>
      if e=elems.length∧i+len≤e∧k=size∧aO=size∧aG≤e then
       some (.t (.aA (.int .i64 (min xs.length len:Nat))),h.set o (.row size (elems.take i++xs.take (min xs.length len)++elems.drop (i+min xs.length len)) e))
      else none
     | _=>none
    | .t (.aA (.slice none 0 0))=>some (.t (.aA (.int .i64 0)),h)
    | .t (.aP _ _ [])=>some (.t (.aA (.int .i64 0)),h)
    | _=>none
   | none=>none
  | none=>none
 | _=>none
def r8(P:Program)(t:TypeId)(x:ah)(lo hi gM:Option ah):Option ah :=
 match dB P t,x with
 | some .string,.t (.aA (.string s)) =>
  match gM,hM 0 lo,hM s.size hi with
  | none,some l,some u=>if l≤u∧u≤s.size then some (.t (.aA (.string (s.extract l u))))else none
  | _,_,_=>none
 | some (.slice elem),.t (.aP clip k xs) =>
  match eM P elem,hM 0 lo,hM xs.length hi with
  | some size,some l,some u =>
   if l≤u∧u≤xs.length∧k=size then
    match gM with
    | none=>some (.t (.aP (clip && decide (u=xs.length)) k ((xs.take u).drop l)))
    | some m=>match asNat m with
     | some m=>if m=u∧hi.isSome=true then some (.t (.aP true k ((xs.take u).drop l)))else none
     | none=>none
   else none
  | _,_,_=>none
 | some (.slice elem),.t (.aA (.slice none 0 0)) =>
  match eM P elem,hM 0 lo,hM 0 hi,hM 0 gM with
  | some _,some 0,some 0,some 0=>if gM.isSome=true∧hi.isSome=false then none else some x
  | _,_,_,_=>none
 | some (.slice elem),.ms o e i len k clip =>
  match eM P elem,hM 0 lo,hM len hi with
  | some size,some l,some u =>
   if l≤u∧u≤len∧k=size then
    match gM with
    | none=>if clip=false∨u=len∨e≤i+len then some (.ms o e (i+l) (u-l) k (clip && decide (u=len)))else none
    | some m=>match asNat m with
     | some m=>if m=u∧hi.isSome=true then some (.ms o e (i+l) (u-l) k true)else none
     | none=>none
   else none
  | _,_,_=>none
 | _,_=>none
def b5{α β:Type}(f:α→Option β):List α→Option (List β)
 | []=>some []
 | a::r=>match f a,b5 f r with
  | some b,some gB=>some (b::gB)
  | _,_=>none
def byteOf:T→Option UInt8
 | .aA (.int .u8 n)=>if 0≤n∧n<256 then some (UInt8.ofNat n.toNat)else none
 | _=>none
def N6(P:Program)(s t:TypeId)(xs:List T):Option ah :=
 match dB P s,dB P t with
 | some (.slice e),some .string=>match dB P e,b5 byteOf xs with
  | some (.int .u8),some l=>some (.t (.aA (.string ⟨l.toArray⟩)))
  | _,_=>none
 | _,_=>none
def xa(P:Program)(t:TypeId)(a:ah)(h:aj):Option ah :=
 match a with
 | .t (.ip cs)=>match tX P t cs with|some x=>some (.t x)|none=>none
 | .ref o e i off=>match rowAt h o e i with
  | some v=>tW P t (v.cells.drop off)
  | none=>none
 | _=>none
def AZ(P:Program)(t:TypeId)(a v:ah)(h:aj):Option aj :=
 match a,eM P t with
 | .ref o e i off,some size =>
  match h[o]? with
  | some (.row k elems aG) =>
   if e=elems.length∧v.cells.length=size∧aG≤e then
    match elems[i]? with
    | some dy =>
     if off+size≤k∧0<size∧fX v.cells=true then some (h.set o (.row k (elems.set i (pack dy.isAgg (ku dy.cells off v.cells))) e))else none
    | none=>none
   else none
  | _=>none
 | _,_=>none
def ze(P:Program)(s:TypeId)(f:Nat):Option (TypeId × Nat) :=
 match dB P s with
 | some (.struct fields)=>match fields[f]? with
  | some fd=>match eM P fd.type with
   | some (n+1)=>some (fd.type,fd.offset)
   | _=>none
  | none=>none
 | _=>none
def Kn(P:Program)(s:TypeId)(x:ah)(f:Nat):Option ah :=
 match ze P s f with
 | some (_,off)=>match x with
  | .t (.ip cs)=>some (.t (.ip (cs.drop off)))
  | .ref o e i k=>some (.ref o e i (k+off))
  | _=>none
 | none=>none
def Gn(P:Program)(t:TypeId)(x ix:ah):Option ah :=
 match dB P t,asNat ix with
 | some (.array len elem),some k =>
  match eM P elem with
  | some size=>if k<len then(match x with
    | .t (.ip cs)=>some (.t (.ip (cs.drop (k*size))))
    | .ref o e i off=>some (.ref o e i (off+k*size))
    | _=>none)else none
  | none=>none
 | some (.slice elem),some j =>
  match x,eM P elem with
  | .t (.aP _ k xs),some size=>match xs[j]? with
   | some v=>if k=size then some (.t (.ip v.cells))else none
   | none=>none
  | .ms o e i len k _,some size=>if j<len∧k=size then some (.ref o e (i+j) 0)else none
  | _,_=>none
 | _,_=>none
def Ko(P:Program)(t:TypeId)(x ix:ah):Option ah :=
 match dB P t,asNat ix with
 | some (.array len elem),some k =>
  match eM P elem,x.isAgg with
  | some size,true=>if k<len then tW P elem (x.cells.drop (k*size))else none
  | _,_=>none
 | some .string,some k=>match x with
  | .t (.aA (.string s))=>match s[k]? with
   | some b=>some (.t (.aA (.int .u8 b.toNat)))
   | none=>none
  | _=>none
 | _,_=>none
def yo(P:Program):List Field→Option (List (Nat × Nat))
 | []=>some []
 | f::r=>match eM P f.type,yo P r with
  | some n,some l=>some ((f.offset,n)::l)
  | _,_=>none
def AY(P:Program)(t:TypeId)(parts:List (Nat × ah)):Option ah :=
 match zeroOf P t with
 | some z =>
  match dB P t with
  | some (.struct fields) =>
   match yo P fields.toList with
   | some yn=>match fill (fun i=>yn[i]?) (ah.t z).cells parts with
    | some cs=>some (kJ cs)
    | none=>none
   | none=>none
  | some (.array _ elem) =>
   match eM P elem with
   | some size=>match fill (fun i=>some (i*size,size)) (ah.t z).cells parts with
    | some cs=>some (kJ cs)
    | none=>none
   | none=>none
  | _=>none
 | none=>none
def eqFields(P:Program)(eq:TypeId→T→T→Option Bool)(xs ys:List T):List Field→Option Bool
 | []=>some true
 | f::r =>
  if f.name = "_" then none else
  match tX P f.type (xs.drop f.offset),tX P f.type (ys.drop f.offset)with
  | some x,some y=>match eq f.type x y,eqFields P eq xs ys r with
   | some a,some b=>some (a && b)
   | _,_=>none
  | _,_=>none
def KP(P:Program)(eq:T→T→Option Bool)(elem:TypeId)(size:Nat)(xs ys:List T):List Nat→Option Bool
 | []=>some true
 | i::r =>
  match tX P elem (xs.drop (i*size)),tX P elem (ys.drop (i*size))with
  | some x,some y=>match eq x y,KP P eq elem size xs ys r with
   | some a,some b=>some (a && b)
   | _,_=>none
  | _,_=>none
def ot(P:Program):Nat→TypeId→T→T→Option Bool
 | 0,_,_,_=>none
 | d+1,t,x,y =>
  match dB P t,x,y with
  | some .bool,.aA (.bool a),.aA (.bool b)=>some (a == b)
  | some (.int _),.aA (.int k a),.aA (.int bg b)=>if k=bg then some (a == b)else none
  | some .string,.aA (.string a),.aA (.string b)=>some (a == b)
  | some (.struct fE),.agg xs,.agg ys=>if P.stoodInHeld t then none else eqFields P (ot P d) xs ys fE.toList
  | some (.array len elem),.agg xs,.agg ys=>match eM P elem with
   | some size=>KP P (ot P d elem) elem size xs ys (List.range len)
   | none=>none
  | _,_,_=>none
def UF(P:Program)(ok:TypeId→T→Bool)(xs:List T):List Field→Bool
 | []=>true
 | f::r =>
  (if f.name = "_" then true else match tX P f.type (xs.drop f.offset)with
   | some x=>ok f.type x
   | none=>false) && UF P ok xs r
def qx(P:Program):Nat→TypeId→T→Bool
 | 0,_,_=>false
 | d+1,t,x =>
  match dB P t,x with
  | some (.int _),.aA _=>true
  | some .string,.aA _=>true
  | some .bool,.aA _=>true
  | some (.struct fE),.agg xs=>UF P (qx P d) xs fE.toList
  | _,_=>false
def sf(P:Program)(fG:TypeId)(k:Value):List (Value × ah)→Nat→Option (Option Nat)
 | [],_=>some none
 | (bg,_)::r,i=>if iL bg then(match ot P 20 fG (fb k) (fb bg)with
  | some true=>if Instr.sameBits 10000 bg k then some (some i)else none
  | some false=>sf P fG k r (i+1)
  | none=>none)else none
def Df(P:Program)(t:TypeId)(x ix:ah)(ok:Bool)(h:aj):Option ah :=
 match dB P t,x,ix.val? with
 | some (.map fG elem),.mp m,some k=>match h[m]? with
  | some (.map es) =>
   if iL k && qx P 20 fG (fb k)then
    match sf P fG k es 0 with
    | some (some i)=>match es[i]? with
     | some (_,y)=>some (if ok then oC [y,.t (.aA (.bool true))]else y)
     | none=>none
    | some none=>match zeroOf P elem with
     | some z=>some (if ok then oC [.t z,.t (.aA (.bool false))]else .t z)
     | none=>none
    | none=>none
   else none
  | _=>none
 | _,_,_=>none
def zf(P:Program)(t:TypeId)(x ix y:ah)(h:aj):Option aj :=
 match dB P t,x,ix.val? with
 | some (.map fG _),.mp m,some k=>match h[m]? with
  | some (.map es) =>
   if iL k && qx P 20 fG (fb k)then
    match sf P fG k es 0 with
    | some (some i)=>some (h.set m (.map (es.set i (k,y))))
    | some none=>some (h.set m (.map (es++[(k,y)])))
    | none=>none
   else none
  | _=>none
 | _,_,_=>none
def mX(P:Program)(t:TypeId):Bool:=match dB P t with|some (.slice _)=>true|_=>false
def mJ(P:Program)(t:TypeId)(x y:ah):Option Bool :=
 match x,y with
 | .t (.agg xs),.t (.agg ys)=>if P.eqGuardType P.depth t then none else ot P 20 t (.agg xs) (.agg ys)
 | .t (.aA (.slice none 0 0)),.t (.aA (.slice none 0 0))=>if mX P t then some true else none
 | .t (.aP _ _ (_::_)),.t (.aA (.slice none 0 0))=>if mX P t then some false else none
 | .t (.aA (.slice none 0 0)),.t (.aP _ _ (_::_))=>if mX P t then some false else none
 | .ms _ _ _ (_+1) _ _,.t (.aA (.slice none 0 0))=>if mX P t then some false else none
 | .t (.aA (.slice none 0 0)),.ms _ _ _ (_+1) _ _=>if mX P t then some false else none
 | .t (.aA (.slice a 0 _)),.t (.aA (.slice none 0 0))=>if mX P t then some a.isNone else none
 | _,_=>none
def s9(P:Program)(op:BinOp)(t:TypeId)(ik il:Operand)(x y:ah):Option ah :=
 match x,y with
 | .t (.aA (.slice _ _ _)),_=>match op with
  | .eql=>match mJ P t x y with|some b=>some (.t (.aA (.bool b)))|none=>none
  | .neq=>match mJ P t x y with|some b=>some (.t (.aA (.bool !b)))|none=>none
  | _=>none
 | .t (.aA a),.t (.aA b)=>match jQ P (do eqGuard op t ik il a b;binOp op t a b)with
  | some v=>if iL v then some (.t (fb v))else none
  | none=>none
 | _,_=>match op with
  | .eql=>match mJ P t x y with|some b=>some (.t (.aA (.bool b)))|none=>none
  | .neq=>match mJ P t x y with|some b=>some (.t (.aA (.bool !b)))|none=>none
  | _=>none
def nx(ρ:Operand→ah):List (Nat × Operand)→List (Nat × ah)
 | []=>[]
 | (i,x)::r=>(i,ρ x)::nx ρ r
def mI(P:Program)(b:Builtin)(argTypes:List TypeId)(type:TypeId)(args:List ah)(h:aj):Option g4 :=
 match b,args with
 | .len,[x] =>
  match argTypes with
  | [t]=>match dB P t with
   | some (.slice _)=>match lenOf x with
    | some n=>some (.val (.t (.aA (.int .i64 n))) h)
    | none=>none
   | some .string=>match x with
    | .t (.aA (.string s))=>some (.val (.t (.aA (.int .i64 s.size))) h)
    | _=>none
   | some (.array n _)=>some (.val (.t (.aA (.int .i64 n))) h)
   | some (.pointer a)=>match dB P a with
    | some (.array n _)=>some (.val (.t (.aA (.int .i64 n))) h)
    | _=>none
   | some (.map _ _)=>match x with
    | .mp o=>match h[o]? with
     | some (.map es)=>some (.val (.t (.aA (.int .i64 es.length))) h)
     | _=>none
    | _=>none
   | _=>none
  | _=>none
 | .append,[s,x]=>match argTypes with
  | [t,u]=>match dB P u with
   | some (.slice _)=>match AX P t s x h with|some (v,ai)=>some (.val v ai)|none=>none
   | _=>none
  | _=>none
 | .copy,[d,s]=>match argTypes with
  | t::_=>match Gm P t d s h with|some (v,ai)=>some (.val v ai)|none=>none
  | []=>none
 | .min,[.t (.aA (.int k a)),.t (.aA (.int _ b))]=>some (.val (.t (.aA (.int k (if b<a then b else a)))) h)
 | .max,[.t (.aA (.int k a)),.t (.aA (.int _ b))]=>some (.val (.t (.aA (.int k (if a<b then b else a)))) h)
 | _,_=>none
def QB(P:Program):List Field→Option (List (Nat × Nat))
 | []=>some []
 | f::r=>match dB P f.type with
  | some (.slice e)=>match eM P e,QB P r with
   | some s,some l=>some ((f.offset,s)::l)
   | _,_=>none
  | _=>QB P r
def G3(P:Program):List Field→Option (List (Nat × Nat))
 | []=>some []
 | f::r=>match dB P f.type with
  | some (.slice e)=>match eM P e,G3 P r with
   | some s,some l=>some ((f.offset,s)::l)
   | _,_=>none
  | some (.struct fE)=>match QB P fE.toList,G3 P r with
   | some eh,some l=>some (eh.map (fun p=>(p.1+f.offset,p.2))++l)
   | _,_=>none
  | _=>G3 P r
def oZ:Nat→List (Nat × Nat)→List ah→Option (List ah)
 | _,[],cs=>some cs
 | n,(off,s)::r,cs=>match cs[off]? with
  | some (.t (.aA (.slice none 0 0)))=>oZ (n+1) r (cs.set off (.ms n 0 0 0 s false))
  | _=>none
def q5(l:List (Nat × Nat)):List a9:=l.map fun p=>.row p.2 [] 0
def Dt(first:List ah)(f:Fn)(captured args:List ah):Option g4 :=
 match f with
 | .func g=>some (.call (.fn g) (first++args++captured))
 | _=>none
def nH(x:ah)(args:List ah):Option g4 :=
 match x with
 | .t (.fn f first captured)=>Dt (first.map .t) f (captured.map .t) args
 | .fn f first captured=>Dt first f captured args
 | .bF o=>some (.call (.bF o) args)
 | _=>none
def sB:List ah→List ah→List ah
 | [],mu=>mu
 | _::_,[]=>[]
 | x::os,n::mu=>(match x,n with
  | .ms o 0 0 0 s c,.t (.aA (.slice none 0 0))=>.ms o 0 0 0 s c
  | _,_=>n)::sB os mu
def x8(h:aj)(a x:ah):ah :=
 match a,x with
 | .ref o _ i off,.t (.agg jU)=>match h[o]? with
  | some (.row _ elems _)=>match elems[i]? with
   | some dy=>.agg (sB (dy.cells.drop off) (jU.map .t))
   | none=>x
  | _=>x
 | .ref o _ i off,.agg cs=>match h[o]? with
  | some (.row _ elems _)=>match elems[i]? with
   | some dy=>.agg (sB (dy.cells.drop off) cs)
   | none=>x
  | _=>x
 | _,x=>x
def EZ(P:Program)(pol:c4)(f:FuncId)(t:TypeId)(a x:Operand):Option Nat :=
 match a,x,dB P t with
 | .tmp s,.const _,some (.slice elem)=>if pol.grow f s then eM P elem else none
 | _,_,_=>none
def U4(s:Nat)(a x:ah):ah :=
 match a,x with
 | .ref o _ _ _,.t (.aA (.slice none 0 0))=>.ms (o-1) 0 0 0 s false
 | _,x=>x
def M1(P:Program)(pol:c4)(f:FuncId)(t:TypeId)(x:Operand):Bool :=
 match x,dB P t with
 | .tmp s,some (.struct _)=>pol.grow f s
 | _,_=>false
def IT(P:Program)(pol:c4)(f:FuncId)(t:TypeId)(Dj x:Operand)(h:aj)(a v:ah):ah :=
 match EZ P pol f t Dj x with
 | some s=>U4 s a v
 | none=>if M1 P pol f t x then x8 h a v else v
def bj(P:Program)(pol:c4)(f:FuncId)(ρ:Operand→ah)(h:aj)(o:Oper):Option g4 :=
 let d:=o.dst.getD 0
 let v (x:Option ah):Option g4:=match x with|some v=>some (.val v h)|none=>none
 match o.op with
 | .move x=>some (.val (ρ x) h)
 | .assign x =>
  if pol.grow f d then
   match ρ x,dB P o.type with
   | .t (.aA (.slice none 0 0)),some (.slice elem)=>match eM P elem with
    | some size=>some (.val (.ms h.length 0 0 0 size false) (h++[.row size [] 0]))
    | none=>none
   | y,_=>some (.val y h)
  else some (.val (ρ x) h)
 | .pick c a b=>match ρ c with
  | .t (.aA (.bool c))=>match ρ a,ρ b with
   | .t (.aA (.bool x)),.t (.aA (.bool y))=>some (.val (.t (.aA (.bool (if c then x else y)))) h)
   | x,y=>some (.val (if c then x else y) h)
  | _=>none
 | .alloc t=>if pol.grow f d then(match zeroOf P t,dB P t with
   | some (.aA (.slice none 0 0)),some (.slice elem)=>match eM P elem with
    | some size=>some (.val (.ref (h.length+1) 1 0 0) (h++[.row size [] 0,.row 1 [.ms h.length 0 0 0 size false] 0]))
    | none=>none
   | some (.agg jU),some (.struct fields)=>match G3 P fields.toList with
    | some l=>match oZ h.length l (jU.map .t)with
     | some cs=>if fX cs then some (.val (.ref (h.length+l.length) 1 0 0) (h++(q5 l++[.row cs.length [.agg cs] 0])))else none
     | none=>none
    | none=>none
   | _,_=>none)else match zeroOf P t with
  | some z=>if fX (ah.t z).cells then some (.val (.ref h.length 1 0 0) (h++[.row (ah.t z).cells.length [.t z] 0]))else none
  | none=>none
 | .box t x=>if pol.grow f d then(match ρ x,dB P t with
   | .t (.aA (.slice none 0 0)),some (.slice elem)=>match eM P elem with
    | some size=>some (.val (.ref (h.length+1) 1 0 0) (h++[.row size [] 0,.row 1 [.ms h.length 0 0 0 size false] 0]))
    | none=>none
   | y,_=>if fX y.cells && !y.cells.isEmpty then some (.val (.ref h.length 1 0 0) (h++[.row y.cells.length [y] 0]))else none)else match pol.IL f d,ρ x with
  | false,.t y=>if fX (ah.t y).cells then some (.val (.t (.ip y.cells)) h)else none
  | _,y=>if fX y.cells && !y.cells.isEmpty then some (.val (.ref h.length 1 0 0) (h++[.row y.cells.length [y] 0]))else none
 | .build t parts=>v (AY P t (nx ρ parts.toList))
 | .buildSlice t len parts=>match dB P t with
  | some (.slice elem)=>match eM P elem,zeroOf P elem with
   | some size,some z =>
    if size=0∨16777216<len*size∨(ah.t z).cells.length≠size∨fX (ah.t z).cells=false then none else
    match se size (List.replicate len (.t z)) (nx ρ parts.toList)with
    | some elems=>match(pol.IL f d || pol.grow f d),e6 elems with
     | false,some aq=>some (.val (.t (.aP true size aq)) h)
     | _,_=>some (.val (.ms h.length len 0 len size (!pol.grow f d)) (h++[.row size elems 0]))
    | none=>none
   | _,_=>none
  | _=>none
 | .load t a=>v (xa P t (ρ a) h)
 | .store t a x=>match AZ P t (ρ a) (IT P pol f t a x h (ρ a) (ρ x)) h with
  | some ai=>some (.skip ai)
  | none=>none
 | .nilCheck x=>match ρ x with
  | .t (.ip cs)=>some (.val (.t (.ip cs)) h)
  | .t (.fn (.func g) a b)=>some (.val (.t (.fn (.func g) a b)) h)
  | .ref o e i k=>some (.val (.ref o e i k) h)
  | .fn (.func g) a b=>some (.val (.fn (.func g) a b) h)
  | .bF o=>some (.val (.bF o) h)
  | _=>none
 | .binOp op t x y _=>v (s9 P op t x y (ρ x) (ρ y))
 | .unOp op _ x=>match ρ x with
  | .t (.aA a)=>match jQ P (Op.unary op a)with
   | some r=>if iL r then some (.val (.t (fb r)) h)else none
   | none=>none
  | _=>none
 | .convert s t x=>match ρ x with
  | .t (.aA a)=>match jQ P (convert s t a)with
   | some r=>if iL r then some (.val (.t (fb r)) h)else none
   | none=>none
  | .t (.aP _ _ (y::ys))=>v (N6 P s t (y::ys))
  | _=>none
 | .makeFunc fn first captured =>
  match e6 (first.toList.map ρ),e6 (captured.toList.map ρ)with
  | some a,some b=>some (.val (.t (.fn fn a b)) h)
  | _,_=>some (.val (.fn fn (first.toList.map ρ) (captured.toList.map ρ)) h)
 | .makeMap _ none=>some (.val (.mp h.length) (h++[.map []]))
 | .makeSlice t l c=>match dB P t with
  | some (.slice elem)=>match eM P elem,uD P elem,zeroOf P elem,asNat (ρ l),asNat (ρ c)with
   | some size,some bytes,some z,some n,some m =>
    if size≠0∧(ah.t z).cells.length=size∧fX (ah.t z).cells=true∧n≤m∧bytes*m≤eQ∧m≤9223372036854775807 then
     (if pol.grow f d=true then(if n=m then some (.val (.t (.aP true size (List.replicate n z))) h)else none)else
     some (.val (.ms h.length n 0 n size (decide (n=m))) (h++[.row size (List.replicate n (.t z)) 0])))else none
   | _,_,_,_,_=>none
  | _=>none
 | .slice t x lo hi gM=>v (r8 P t (ρ x) (lo.map ρ) (hi.map ρ) (gM.map ρ))
 | .fieldAddr s x qc=>v (Kn P s (ρ x) qc)
 | .field s x qc=>match ze P s qc,(ρ x).isAgg with
  | some (t,off),true=>v (tW P t ((ρ x).cells.drop off))
  | _,_=>none
 | .indexAddr t x ix=>v (Gn P t (ρ x) (ρ ix))
 | .index t x ix=>v (Ko P t (ρ x) (ρ ix))
 | .lookup t x ix ok=>v (Df P t (ρ x) (ρ ix) ok h)
 | .mapUpdate t m k x=>match zf P t (ρ m) (ρ k) (ρ x) h with
  | some ai=>some (.skip ai)
  | none=>none
 | .insert t m k x=>match zf P t (ρ m) (ρ k) (ρ x) h with
  | some ai=>some (.skip ai)
  | none=>none
 | .extract x i=>match ρ x with
  | .t (.ch vs)=>match vs[i]? with|some y=>some (.val (.t y) h)|none=>none
  | .ch vs=>v vs[i]?
  | _=>none
 | .call c=>match c.callee with
  | .builtin b=>mI P b c.argTypes.toList o.type (c.args.toList.map ρ) h
  | .value g=>nH (ρ g) (c.args.toList.map ρ)
  | .invoke _ _=>none
 | _=>none
def g7(pol:c4)(env:Env):Operand→ah
 | .tmp t=>env.getD t .dead
 | .const v=>if iL v then .t (fb v)else .dead
 | .global g=>match pol.gK g with|some x=>.t x|none=>.dead
 | .func f=>.t (.fn (.func f) [] [])
mutual
def cL(p:Nat→Bool):ah→Bool
 | .t _=>true
 | .ref o _ _ _=>!p o
 | .ms o _ _ _ _ _=>!p o
 | .mp o=>!p o
 | .bF o=>!p o
 | .dead=>true
 | .agg cs=>dw p cs
 | .ch cs=>dw p cs
 | .fn _ a b=>dw p a && dw p b
def dw(p:Nat→Bool):List ah→Bool
 | []=>true
 | v::r=>cL p v && dw p r
end
def snap(h:aj)(p:Nat→Bool):Nat→ah→Option T
 | 0,.t x=>some x
 | 0,_=>none
 | _+1,.t x=>some x
 | d+1,.agg cs=>match b5 (snap h p d) cs with|some aq=>some (.agg aq)|none=>none
 | d+1,.ch cs=>match b5 (snap h p d) cs with|some aq=>some (.ch aq)|none=>none
 | d+1,.fn f a b=>match b5 (snap h p d) a,b5 (snap h p d) b with|some x,some y=>some (.fn f x y)|_,_=>none
 | d+1,.ref o e i off=>if p o then(match rowAt h o e i with
  | some v=>match b5 (snap h p d) v.cells with|some aq=>some (.ip (aq.drop off))|none=>none
  | none=>none)else none
 | d+1,.ms o e i len k clip=>if p o then(match gU h k (.ms o e i len k clip)with
  | some es=>match b5 (snap h p d) es with|some aq=>some (.aP clip k aq)|none=>none
  | none=>none)else none
 | _+1,_=>none
def ez:Nat→Bool:=fun _=>true
def jk(h:aj)(p:Nat→Bool)(v:ah):Option ah :=
 if cL p v then some v else match snap h p 20 v with|some x=>some (.t x)|none=>none
def dV(h:aj)(p:Nat→Bool)(v:ah):Option ah :=
 match v with
 | .agg cs=>if dw p cs then some v else match b5 (jk h p) cs with
  | some cs=>some (kJ cs)
  | none=>none
 | v=>jk h p v
def T.plain:T→Bool
 | .aA _=>true
 | .agg cs=>cs.all fun|.aA _=>true|_=>false
 | .ch vs=>vs.all fun|.aA _=>true|.agg cs=>(cs.all fun|.aA _=>true|_=>false)|_=>false
 | _=>false
abbrev eZ:=FuncId→List T→Option T
abbrev eY:=sY→List ah→aj→Option (ah × aj)
def wB(pol:c4):eZ:=fun f aq=>if pol.u6 f then(match aq with|[.aP _ k []]=>some (.aP false k [])|_=>none)else pol.Jb f aq
def u7(pol:c4)(f:FuncId)(args:List ah):Bool:=pol.u6 f && (match args with|[.t (.aP _ _ [])]=>true|_=>false)
def zm(p:Nat→Bool):a9→Bool
 | .row _ es _=>dw p es
 | .map es=>es.all fun dF=>cL p dF.2
 | .gone=>true
 | .loop _ _ _ _ _ _ _=>false
def oQ(p:Nat→Bool):List a9→Bool
 | []=>true
 | x::r=>zm p x && oQ p r
def kB(n:Nat):Nat→Bool:=fun o=>decide (o<n)
mutual
def names:ah→List Nat
 | .t _=>[]
 | .ref o _ _ _=>[o]
 | .ms o _ _ _ _ _=>[o]
 | .mp o=>[o]
 | .bF o=>[o]
 | .dead=>[]
 | .agg cs=>jF cs
 | .ch cs=>jF cs
 | .fn _ a b=>jF a++jF b
def jF:List ah→List Nat
 | []=>[]
 | v::r=>names v++jF r
end
def z8(l:List Nat):Nat→Bool:=fun o=>l.contains o
def vI(h:aj):Option (ah × aj)→Option (ah × aj)
 | some (v,ag)=>if(decide (h.length≤ag.length) && cL (kB h.length) v && oQ (kB h.length) (ag.drop h.length))=true then some (v,h++ag.drop h.length)else none
 | none=>none
mutual
def kK:ah→Bool
 | .t x=>x.plain
 | .ref _ _ _ _=>true
 | .ms _ _ _ _ _ _=>true
 | .mp _=>true
 | .dead=>true
 | .agg cs=>qF cs
 | .ch cs=>qF cs
 | .bF _=>false
 | .fn _ _ _=>false
def qF:List ah→Bool
 | []=>true
 | x::r=>kK x && qF r
end
def np:List a9→Bool
 | []=>true
 | .row _ es _::r=>qF es && np r
 | .gone::r=>np r
 | _::_=>false
def vJ(h:aj):Option (ah × aj)→Option (ah × aj)
 | some (v,ag)=>if(kK v && np (ag.drop h.length))=true then vI h (some (v,ag))else none
 | none=>none
def put(env:Env):Option Tmp→ah→Env
 | some d,v=>env.set d v
 | none,_=>env
def uJ(h:aj)(p:Nat→Bool)(env:Env):Env:=env.map fun v=>match dV h p v with|some v=>v|none=>.dead
def GZ(h:aj)(p:Nat→Bool)(dF:Value × ah):Option (Value × ah) :=
 match dV h p dF.2 with|some v=>some (dF.1,v)|none=>none
def dk(h:aj)(p:Nat→Bool)(x:a9):Option a9 :=
 match x with
 | .row k es aG=>if dw p es then some x else match b5 (dV h p) es with|some es=>some (.row k es aG)|none=>none
 | .map es=>if es.all (fun dF=>cL p dF.2)then some x else match b5 (GZ h p) es with|some es=>some (.map es)|none=>none
 | .loop _ env _ _ _ _ _=>if dw p env then some x else none
 | .gone=>some .gone
def bV(n:Nat):Nat→Bool:=fun o=>decide (n≤o)
def shrink(n:Nat)(env:Env)(h:aj):Option (Env × aj) :=
 if h.length≤n then some (env,h)
 else match b5 (dk h (bV n)) (h.take n)with
  | some ai=>some (uJ h (bV n) env,ai)
  | none=>none
def alive:Option (ah × aj)→Option (ah × aj)
 | some (.dead,_)=>none
 | r=>r
def pr(b:Bool)(h:aj)(r:Option (ah × aj)):Option (ah × aj) :=
 if b then(match r with
  | some (.t x,ag)=>match shrink h.length [] ag with
   | some (_,aJ)=>some (.t x,aJ)
   | none=>none
  | _=>none)
 else r
def iw(pol:c4)(K:eZ)(I:eY)(at_:FuncId)(d:Tmp)(g:sY)(args:List ah)(h:aj):Option (ah × aj) :=
 match g with
 | .bF o=>I (.bF o) args h
 | .fn f =>
  if(pol.inl f at_ d && !u7 pol f args)=true then pr (pol.trim f) h (alive (I (.fn f) args h))else
  match e6 args with
  | some aq=>if(pol.fresh f at_ d && !u7 pol f args)=true then vI h (alive (I (.fn f) args (List.replicate h.length .gone)))else match K f aq with|some r=>some (.t r,h)|none=>none
  | none=>if pol.fresh f at_ d=true then(match b5 (snap h (z8 (jF args)) 20) args with
    | some aq=>vJ h (alive (I (.fn f) (aq.map .t) (List.replicate h.length .gone)))
    | none=>none)
   else match b5 (snap h ez 20) args with
   | some aq=>match K f aq with|some r=>if r.plain then some (.t r,h)else none|none=>none
   | none=>alive (I (.fn f) args h)
def atV:Option a9→List Nat
 | some (.row _ es _)=>jF es
 | some (.map es)=>es.flatMap fun dF=>names dF.2
 | _=>[]
def reach(h:aj):Nat→List Nat→List Nat
 | 0,os=>os
 | d+1,os=>os++(match os.flatMap (fun o=>atV h[o]?)with
  | []=>[]
  | ms=>reach h d ms)
def tl(h:aj)(p:Nat→Bool):Nat→aj→Option aj
 | _,[]=>some []
 | i,x::r=>match(if p i then some .gone else dk h p x),tl h p (i+1) r with
  | some y,some ys=>some (y::ys)
  | _,_=>none
def freeze(os:List Nat)(env:Env)(h:aj):Option (Env × aj) :=
 match tl h (fun o=>os.contains o) 0 h with
 | some ai=>some (uJ h (fun o=>os.contains o) env,ai)
 | none=>none
def mN(ops:List Oper)(env:Env):Option (Nat × Bool)→Option Bool
 | none=>some true
 | some (j,wT) =>
  match ops[j]? with
  | some o=>match o.dst with
   | some d=>match env.getD d .dead with
    | .t (.aA (.bool b))=>some (b == wT)
    | .t (.aA _)=>some false
    | _=>none
   | none=>none
  | none=>none
def lK(P:Program)(pol:c4)(K:eZ)(I:eY)(f:FuncId)(o:Oper)(env:Env)(h:aj):Option (Env × aj) :=
 match bj P pol f (g7 pol env) h o with
 | some (.val v ai)=>some (put env o.dst v,ai)
 | some (.skip ai)=>some (put env o.dst (.t (.aA undef)),ai)
 | some (.call g args)=>match iw pol K I f (o.dst.getD 0) g args h with
  | some (v,ai)=>some (put env o.dst v,ai)
  | none=>none
 | none=>none
def nI(P:Program)(pol:c4)(K:eZ)(I:eY)(f:FuncId)(o:Oper)(env:Env)(h:aj):Option (Env × aj) :=
 if pol.dV f (o.dst.getD 0)then
  match freeze (reach h 20 (jF (o.op.operands.toList.map (g7 pol env)))) env h with
  | some (bz,ai)=>lK P pol K I f o bz ai
  | none=>none
 else lK P pol K I f o env h
def kc(P:Program)(pol:c4)(K:eZ)(I:eY)(f:FuncId)(ops:List Oper):List Oper→Env→aj→Option (Env × aj)
 | [],env,h=>some (env,h)
 | o::rest,env,h =>
  match mN ops env o.guard with
  | some b=>if b then(match nI P pol K I f o env h with
    | some (bz,ai)=>kc P pol K I f ops rest bz ai
    | none=>none)
   else kc P pol K I f ops rest (put env o.dst (.t (.aA undef))) h
  | none=>none
def qW(P:Program)(pol:c4)(I:eY)(f:FuncId)(o:Oper)(env:Env)(h:aj):Option aj :=
 match bj P pol f (g7 pol env) h o with
 | some (.call (.fn g) args) =>
  if(pol.inl g f (o.dst.getD 0) && !u7 pol g args)=true then(match I (.fn g) args h with
   | some (.dead,ai)=>some ai
   | _=>none)
  else none
 | _=>none
def Kw(P:Program)(n:Nat)(o:Oper):List Oper→Bool
 | h7::_=>(match o.op,o.dst,o.guard,h7.op,h7.guard with
  | .makeInterface t _,some d,none,.panic (.tmp e),none=>d == e && decide (d<n) && (match dB P t with|some (.interface _)=>false|some _=>true|none=>false)
  | _,_,_,_,_=>false)
 | []=>false
def yv(P:Program)(env:Env)(o:Oper)(r:List Oper):Bool:=Kw P env.length o r
def kd(P:Program)(pol:c4)(K:eZ)(I:eY)(f:FuncId)(ops:List Oper):List Oper→Env→aj→Option (Env × aj)
 | [],_,_=>none
 | o::rest,env,h =>
  if yv P env o rest then some (put env o.dst .dead,h)else
  match mN ops env o.guard with
  | some b=>if b then(match(if pol.dV f (o.dst.getD 0)then none else qW P pol I f o env h)with
    | some ai=>some (env,ai)
    | none=>match nI P pol K I f o env h with
     | some (bz,ai)=>kd P pol K I f ops rest bz ai
     | none=>none)
   else kd P pol K I f ops rest (put env o.dst (.t (.aA undef))) h
  | none=>none
inductive cW where
 | normal
 | exit (id:Nat)
 | ret
 | panic
def ER(aq:List Tmp)(env:Env):Env:=env.mapIdx fun i v=>if aq.contains i then v else .dead
def tidy(live:Option (List Tmp))(env:Env):Env :=
 match live with
 | some aq=>ER aq env
 | none=>env
def iter(cF:Nat)(live:Option (List Tmp))(body:Env→aj→Option (cW × Env × aj)):Nat→Env→aj→Option (cW × Env × aj)
 | 0,_,_=>none
 | n+1,env,h =>
  match body (tidy live env) h with
  | some (.normal,bz,ai)=>match shrink cF bz ai with
   | some (zq,sj)=>iter cF live body n zq sj
   | none=>none
  | r=>r
def Cf(h:aj)(l:Nat):Option (Option Code) :=
 match h[l]? with
 | some (.loop _ _ _ _ _ false p)=>some p
 | _=>none
def cl:ah→List Nat
 | .ref o _ _ _=>[o]
 | .ms o _ _ _ _ _=>[o]
 | .mp o=>[o]
 | _=>[]
def cO(pol:c4)(at_:FuncId)(ρ:Operand→ah)(o:Oper):Option (List Nat) :=
 match o.op with
 | .load _ a=>some (cl (ρ a))
 | .store _ a _=>some (cl (ρ a))
 | .lookup _ m _ _=>some (cl (ρ m))
 | .mapUpdate _ m _ _=>some (cl (ρ m))
 | .insert _ m _ _=>some (cl (ρ m))
 | .call c=>match c.callee with
  | .builtin .append=>some (c.args.toList.flatMap fun a=>cl (ρ a))
  | .builtin .copy=>some (c.args.toList.flatMap fun a=>cl (ρ a))
  | .builtin .len=>some (c.args.toList.flatMap fun a=>cl (ρ a))
  | .builtin _=>some []
  | .value g=>match nH (ρ g) (c.args.toList.map ρ)with
   | some (.call (.fn f) args)=>if pol.inl f at_ (o.dst.getD 0)then none else(match e6 args with|some _=>some []|none=>if pol.fresh f at_ (o.dst.getD 0)then some (jF args)else none)
   | _=>none
  | .invoke _ _=>none
 | _=>some []
def sP(t:Option (List Nat))(h ai:aj):Option (List Nat) :=
 match t with
 | some l=>some (l++List.range' h.length (ai.length-h.length))
 | none=>none
def r9:Option (List Nat)→Option (List Nat)→Bool
 | some [],_=>true
 | _,some []=>true
 | some a,some b=>a.all fun x=>!b.contains x
 | _,_=>false
def nO(fj:List (Nat × Nat))(aq:List (Option (List Nat))):Bool :=
 fj.all fun(i,j)=>r9 (aq.getD i none) (aq.getD j none)
def pD(P:Program)(pol:c4)(K:eZ)(I:eY)(f:FuncId)(ops:List Oper):List Oper→Env→aj→Option (Env × aj × List (Option (List Nat)))
 | [],env,h=>some (env,h,[])
 | o::rest,env,h =>
  match mN ops env o.guard with
  | some b=>if b then(match lK P pol K I f o env h with
    | some (bz,ai)=>if ai.length<h.length then none else match pD P pol K I f ops rest bz ai with
     | some (zq,sj,aq)=>some (zq,sj,sP (cO pol f (g7 pol env) o) h ai::aq)
     | none=>none
    | none=>none)
   else match pD P pol K I f ops rest (put env o.dst (.t (.aA undef))) h with
     | some (zq,sj,aq)=>some (zq,sj,some []::aq)
     | none=>none
  | none=>none
def du(P:Program)(pol:c4)(K:eZ)(I:eY)(n:Nat)(f:FuncId):(dd:Nat)→Code→Env→aj→Option (cW × Env × aj)
 | _,.skip,env,h=>some (.normal,env,h)
 | _,.label _,env,h=>some (.normal,env,h)
 | _,.region _ ops false,env,h =>
  match kc P pol K I f ops.toList ops.toList env h with
  | some (bz,ai)=>some (.normal,bz,ai)
  | none=>if pol.lq f then(match kd P pol K I f ops.toList ops.toList env h with
   | some (bz,ai)=>some (.panic,bz,ai)
   | none=>none)else none
 | _,.region id ops true,env,h =>
  match pD P pol K I f ops.toList ops.toList env h with
  | some (bz,ai,aq)=>if nO (pol.fj f id) aq then some (.normal,bz,ai)else none
  | none=>none
 | dd,.seq a b,env,h =>
  match du P pol K I n f dd a env h with
  | some (.normal,bz,ai)=>du P pol K I n f dd b bz ai
  | r=>r
 | dd,.cond c a b,env,h =>
  match g7 pol env c with
  | .t (.aA (.bool t))=>if t then du P pol K I n f dd a env h else du P pol K I n f dd b env h
  | _=>none
 | _,.block id c,env,h =>
  match du P pol K I n f id c env h with
  | some (.exit j,bz,ai)=>if j=id then some (.normal,bz,ai)else some (.exit j,bz,ai)
  | r=>r
 | dd,.loop c,env,h=>iter (if pol.M0 f dd then h.length+1000000 else h.length) (pol.live f dd) (du P pol K I n f dd c) n env h
 | dd,.scope c,env,h=>du P pol K I n f dd c env h
 | _,.exit id,env,h=>some (.exit id,env,h)
 | _,.ret,env,h=>some (.ret,env,h)
 | dd,.rangeFunc g params assign body,env,h =>
  match nH (g7 pol env g) [.bF h.length]with
  | some (.call (.fn nS) args)=>match alive (I (.fn nS) args (h++[.loop f (tidy (pol.live f dd) env) params.toList assign body false none]))with
   | some (_,ag)=>match Cf ag h.length,shrink h.length env (ag.set h.length .gone)with
    | some none,some (bz,ai)=>some (.normal,bz,ai)
    | some (some .ret),some (bz,ai)=>some (.ret,bz,ai)
    | some (some (.exit id)),some (bz,ai)=>some (.exit id,bz,ai)
    | _,_=>none
   | none=>none
  | _=>none
 | _,_,_,_=>none
def Dg(P:Program)(env:Env)(h:aj):ResultVar→Option ah
 | .tmp t=>some (env.getD t .dead)
 | .cell a t=>xa P t (env.getD a .dead) h
def qa(P:Program)(env:Env)(h:aj):List ResultVar→Option (List ah)
 | []=>some []
 | r::rs=>match Dg P env h r,qa P env h rs with
  | some v,some vs=>some (v::vs)
  | _,_=>none
def one(vs:List ah):ah :=
 match vs with
 | [v]=>v
 | vs=>oC vs
def p9(P:Program)(pol:c4)(K:eZ)(I:eY)(n:Nat)(f:FuncId)(args:List ah)(h:aj):Option (ah × aj) :=
 match P.funcs[f]? with
 | some fn=>match fn.body with
  | some c=>match du P pol K I n f 0 c (args++List.replicate (fn.ntmps-args.length) .dead) h with
   | some (.normal,env,ai)=>match qa P env ai fn.results.toList with
    | some vs=>alive (some (one vs,ai))
    | none=>none
   | some (.ret,env,ai)=>match qa P env ai fn.results.toList with
    | some vs=>alive (some (one vs,ai))
    | none=>none
   | some (.panic,_,ai)=>some (.dead,ai)
   | _=>none
  | none=>none
 | none=>none
def CE(env:Env):List (Tmp × ah)→Env
 | []=>env
 | (t,v)::r=>CE (env.set t v) r
def A9(h:aj)(l:Nat):Option aj :=
 match h[l]? with
 | some (.loop f env params assign body false none)=>some (h.set l (.loop f env params assign body true none))
 | _=>none
def pU(h:aj)(l:Nat)(tI:Option Code):Option (ah × aj) :=
 match h[l]? with
 | some (.loop f env params assign body true none)=>some (.t (.aA (.bool tI.isNone)),h.set l (.loop f env params assign body false tI))
 | _=>none
def inl(P:Program)(pol:c4)(K:eZ)(n:Nat):Nat→eY
 | 0=>fun _ _ _=>none
 | d+1=>fun g args h =>
  match g with
  | .fn f=>p9 P pol K (inl P pol K n d) n f args h
  | .bF l=>match h[l]? with
   | some (.loop f env params assign body false none) =>
    if args.length≠params.length then none else
    match du P pol K (inl P pol K n d) n f 0 assign (CE env (params.zip args)) h with
    | some (.normal,eg,ad)=>match A9 ad l with
     | some ad=>match du P pol K (inl P pol K n d) n f 0 body eg ad with
      | some (.normal,_,ag)=>pU ag l none
      | some (.ret,_,ag)=>pU ag l (some .ret)
      | some (.exit id,_,ag)=>pU ag l (some (.exit id))
      | _=>none
     | none=>none
    | _=>none
   | _=>none
def wI(P:Program)(pol:c4)(K:eZ)(n d:Nat)(f:FuncId)(args:List T):Option T :=
 match p9 P pol K (inl P pol K n d) n f (args.map .t) []with
 | some (r,h)=>snap h ez 20 r
 | none=>none
end Go.Abs
/- How the abstract values stand for the model's values in a world,and what a step of the machine leaves of that. -/
namespace Go.Abs
open Go
class cf where
 ok:FuncId→Code→Prop
abbrev c8:=Nat→Prop
abbrev dt:=Nat→Nat→Option (Nat × Nat)
inductive eO(D:c8)(w:World):Value→T→Prop
 | aA (v:Value) (az:I7 v=true):eO D w v (.aA v)
 | agg (cs:Array Value) (aq:List T) (ao:cs.size=aq.length) (h:∀(i:Nat) v t,cs[i]? = some v→aq[i]? = some t→eO D w v t):eO D w (.agg cs) (.agg aq)
 | ch (cs:Array Value) (aq:List T) (ao:cs.size=aq.length) (h:∀(i:Nat) v t,cs[i]? = some v→aq[i]? = some t→eO D w v t):eO D w (.tuple cs) (.ch aq)
 | fn (f:Fn) (a b:Array Value) (x y:List T) (ae:a.size=x.length) (ab:b.size=y.length)
   (ad:∀(i:Nat) v t,a[i]? = some v→x[i]? = some t→eO D w v t) (ag:∀(i:Nat) v t,b[i]? = some v→y[i]? = some t→eO D w v t):eO D w (.func f a b) (.fn f x y)
 | ip (b off:Nat) (cs:List T) (cR:D b) (c:Nat→Value) (af:∀ j,j<cs.length→w.cell? ⟨b,off+j,none⟩=some (c j)∧mv (c j)=true)
   (h:∀(j:Nat) t,cs[j]? = some t→eO D w (c j) t):eO D w (.pointer (some ⟨b,off,none⟩)) (.ip cs)
 | rF (a:Option Addr) (cap:Nat) (clip:Bool) (k:Nat) (af:clip=true→cap=0):eO D w (.slice a 0 cap) (.aP clip k [])
 | aP (b off len cap:Nat) (clip:Bool) (k:Nat) (xs:List T) (cR:D b) (hlen:len=xs.length) (fF:len≤cap) (gu:clip=true→cap=len)
   (an:∀(i:Nat) x,xs[i]? = some x→x.cells.length=k) (c:Nat→Value) (af:∀ j,j<len*k→w.cell? ⟨b,off+j,none⟩=some (c j)∧mv (c j)=true)
   (h:∀(i:Nat) x (j:Nat) t,xs[i]? = some x→x.cells[j]? = some t→eO D w (c (i*k+j)) t):eO D w (.slice (some ⟨b,off,none⟩) len cap) (.aP clip k xs)
def jv(w:World)(b:Nat):Option Nat :=
 match w.heap[b]? with
 | some (.cells c _ _)=>some c.size
 | _=>none
inductive bf(D:c8)(β:dt)(w:World):Value→ah→Prop
 | t (v:Value) (x:T) (h:eO D w v x):bf D β w v (.t x)
 | agg (cs:Array Value) (aq:List ah) (ao:cs.size=aq.length) (h:∀(i:Nat) v t,cs[i]? = some v→aq[i]? = some t→bf D β w v t):bf D β w (.agg cs) (.agg aq)
 | ch (cs:Array Value) (aq:List ah) (ao:cs.size=aq.length) (h:∀(i:Nat) v t,cs[i]? = some v→aq[i]? = some t→bf D β w v t):bf D β w (.tuple cs) (.ch aq)
 | fn (f:Fn) (a b:Array Value) (x y:List ah) (ae:a.size=x.length) (ab:b.size=y.length)
   (ad:∀(i:Nat) v t,a[i]? = some v→x[i]? = some t→bf D β w v t) (ag:∀(i:Nat) v t,b[i]? = some v→y[i]? = some t→bf D β w v t):bf D β w (.func f a b) (.fn f x y)
 | ref (o e i off b k:Nat) (ab:β o e=some (b,k)):bf D β w (.pointer (some ⟨b,i*k+off,none⟩)) (.ref o e i off)
 | k5 (a:Option Addr) (o e i k:Nat) (clip:Bool) (bo:clip=false→e≤i):bf D β w (.slice a 0 0) (.ms o e i 0 k clip)
 | ms (o e i len k:Nat) (clip:Bool) (b cap n:Nat) (ab:β o e=some (b,k)) (hle:i+len≤e) (fF:len≤cap) (gu:clip=true→cap=len)
   (aw:jv w b=some n) (dn:(i+cap)*k≤n) (hex:clip=false→e≤i+cap):bf D β w (.slice (some ⟨b,i*k,none⟩) len cap) (.ms o e i len k clip)
 | mp (o b k:Nat) (ab:β o 0=some (b,k)):bf D β w (.map (some b)) (.mp o)
 | bF (o b k:Nat) (ab:β o 0=some (b,k)):bf D β w (.func (.yield b) #[] #[]) (.bF o)
 | dead (v:Value):bf D β w v .dead
structure Ext(D:c8)(β:dt)(w:World)(a5:c8)(a4:dt)(w':World):Prop where
 sub:∀ b,D b→a5 b
 same:∀ b,D b→w'.heap[b]? = w.heap[b]?
 oR:∀ o e x,β o e=some x→a4 o e=some x
 rows:∀ b n,jv w b=some n→jv w' b=some n
 defs:∀(b:Nat) ds,w.heap[b]? = some (.deferred ds)→w'.heap[b]? = some (.deferred ds)
 loops:∀(b:Nat) L,w.heap[b]? = some (.loop L)→∃ L',w'.heap[b]? = some (.loop L')
 size:w.heap.size≤w'.heap.size
theorem Ext.refl(D:c8)(β:dt)(w:World):Ext D β w D β w :=
 ⟨fun _ h=>h,fun _ _=>rfl,fun _ _ _ h=>h,fun _ _ h=>h,fun _ _ h=>h,fun _ L h=>⟨L,h⟩,bP _⟩
theorem Ext.trans{D a5 ny:c8}{β a4 oe:dt}{w w' m6:World}(h:Ext D β w a5 a4 w')(ai:Ext a5 a4 w' ny oe m6):Ext D β w ny oe m6 :=
 ⟨fun b x=>ai.sub b (h.sub b x),fun b x=>(ai.same b (h.sub b x)).trans (h.same b x),fun o e x y=>ai.oR o e x (h.oR o e x y),fun b n x=>ai.rows b n (h.rows b n x),
  fun b ds x=>ai.defs b ds (h.defs b ds x),fun b L x=>let⟨ue,y⟩:=h.loops b L x;ai.loops b ue y,kP h.size ai.size⟩
theorem PK{w w':World}{a:Addr}(h:w'.heap[a.block]? = w.heap[a.block]?):w'.cell? a=w.cell? a:=by
 simp only[World.cell?,h]
theorem eO.mono{D a5:c8}{w w':World}(J:∀ b,D b→a5 b)(hw:∀ b,D b→w'.heap[b]? = w.heap[b]?){v:Value}{x:T}(h:eO D w v x):eO a5 w' v x:=by
 induction h with
 | aA v az=>exact .aA v az
 | agg cs aq ao _ au=>exact .agg cs aq ao au
 | ch cs aq ao _ au=>exact .ch cs aq ao au
 | fn f a b x y ae ab _ _ tF qu=>exact .fn f a b x y ae ab tF qu
 | ip b off cs cR c af _ au=>exact .ip b off cs (J b cR) c (fun j aU=>⟨(PK (hw b cR)).trans (af j aU).1,(af j aU).2⟩) au
 | rF a cap clip k af=>exact .rF a cap clip k af
 | aP b off len cap clip k xs cR hlen fF gu an c af _ au =>
  exact .aP b off len cap clip k xs (J b cR) hlen fF gu an c (fun j aU=>⟨(PK (hw b cR)).trans (af j aU).1,(af j aU).2⟩) au
theorem bf.mono{D a5:c8}{β a4:dt}{w w':World}(U:Ext D β w a5 a4 w'){v:Value}{x:ah}(h:bf D β w v x):bf a5 a4 w' v x:=by
 induction h with
 | t v x h=>exact .t v x (h.mono U.sub U.same)
 | agg cs aq ao _ au=>exact .agg cs aq ao au
 | ch cs aq ao _ au=>exact .ch cs aq ao au
 | fn f a b x y ae ab _ _ tF qu=>exact .fn f a b x y ae ab tF qu
 | ref o e i off b k ab=>exact .ref o e i off b k (U.oR _ _ _ ab)
 | k5 a o e i k clip bo=>exact .k5 a o e i k clip bo
 | ms o e i len k clip b cap n ab hle fF gu aw dn hex=>exact .ms o e i len k clip b cap n (U.oR _ _ _ ab) hle fF gu (U.rows _ _ aw) dn hex
 | mp o b k ab=>exact .mp o b k (U.oR _ _ _ ab)
 | bF o b k ab=>exact .bF o b k (U.oR _ _ _ ab)
 | dead v=>exact .dead v
def ir(D:c8)(β:dt)(w:World)(vs:List Value)(xs:List ah):Prop :=
 vs.length=xs.length∧∀(i:Nat) v x,vs[i]? = some v→xs[i]? = some x→bf D β w v x
def g3(D:c8)(β:dt)(w:World)(tmps:Array Value)(env:Env):Prop :=
 tmps.size=env.length∧∀(i:Nat) v x,tmps[i]? = some v→env[i]? = some x→bf D β w v x
theorem g3.mono{D a5:c8}{β a4:dt}{w w':World}(U:Ext D β w a5 a4 w'){tmps:Array Value}{env:Env}(h:g3 D β w tmps env):g3 a5 a4 w' tmps env :=
 ⟨h.1,fun i v x az he=>(h.2 i v x az he).mono U⟩
def ui(D:c8)(β:dt)(w:World)(o k:Nat)(elems:List ah)(aG:Nat):Prop :=
 (∀(i:Nat) x,elems[i]? = some x→x.cells.length=k) ∧
 ∀ e b bg,β o e=some (b,bg)→¬ D b∧bg=k∧e≤elems.length ∧
  (aG≤e→∃ c ty,w.heap[b]? = some (.cells c ty (0,0))∧e*k≤c.size ∧
   ∀(i:Nat) x (j:Nat) t,i<e→elems[i]? = some x→x.cells[j]? = some t→∃ v,c[i*k+j]? = some v∧mv v=true∧bf D β w v t)
def ud(mes:Array MapEntry)(clock:Nat):Prop:=(∀ b∈mes.toList.map (·.born),b<clock)∧(mes.toList.map (·.born)).Nodup
def e5[cf](D:c8)(β:dt)(w:World)(o:Nat):a9→Prop
 | .gone=>True
 | .row k elems aG=>ui D β w o k elems aG
 | .map es=>∀ e b k,β o e=some (b,k)→e=0∧¬ D b∧∃ mes clock,w.heap[b]? = some (.map mes clock)∧mes.size=es.length∧ud mes clock ∧
   ∀(i:Nat) m dF,mes[i]? = some m→es[i]? = some dF→m.key=dF.1∧bf D β w m.val dF.2
 | .loop f env params assign body busy pending=>∀ e b k,β o e=some (b,k)→e=0∧¬ D b∧∃ L:Loop,w.heap[b]? = some (.loop L)∧(cf.ok f assign∧cf.ok f body)∧L.params.toList=params ∧
   L.assign=assign∧L.body=body∧L.pending=pending∧L.state=(if busy then .busy else if pending.isNone then .ready else .done)∧g3 D β w L.tmps env
theorem ud.modify{mes:Array MapEntry}{clock:Nat}(h:ud mes clock)(i:Nat)(f:MapEntry→MapEntry)(aI:∀ e,(f e).born=e.born):ud (mes.modify i f) clock:=by
 have:(mes.modify i f).toList.map (·.born)=mes.toList.map (·.born):=by
  apply y1
  intro j
  simp only[eE,s8,F2]
  split
  ·cases mes[j]?<;>simp[aI]
  ·rfl
 unfold ud
 rw[this]
 exact h
theorem ud.push{mes:Array MapEntry}{clock:Nat}(h:ud mes clock){e:MapEntry}(he:e.born=clock):ud (mes.push e) (clock+1):=by
 unfold ud
 rw[Array.toList_push,ux,gz,nB,he]
 refine⟨fun b ab=>?_,?_⟩
 ·rcases hp.1 ab with ab|ab
  ·have:=h.1 b ab;omega
  ·simp at ab;omega
 ·rw[Pa]
  refine⟨h.2,by simp,fun a ae b ab=>?_⟩
  have:=h.1 a ae
  simp at ab
  omega
structure hG where
 N:Nat
 W:World
 D:c8
structure er(Z:hG)(D:c8)(β:dt)(w:World):Prop where
 jS:Z.N≤w.heap.size
 dy:∀ b,b<Z.N→w.heap[b]? = Z.W.heap[b]?
 os:w.os=Z.W.os
 out:w.output=Z.W.output
 hV:∀ b,D b→b<w.heap.size
 lM:∀ b,D b→b<Z.N→Z.D b
 blt:∀ o e b k,β o e=some (b,k)→Z.N≤b∧b<w.heap.size
 inj:∀ o e b k cC bs bg,β o e=some (b,k)→β cC bs=some (b,bg)→o=cC
 eU:∀(b:Nat) ds,w.heap[b]? = some (.deferred ds)→Z.N≤b→¬ D b∧∀ o e k,β o e≠some (b,k)
structure Inv[cf](Z:hG)(D:c8)(β:dt)(h:aj)(w:World):Prop where
 g:er Z D β w
 obj:∀(o:Nat) x,h[o]? = some x→e5 D β w o x
 kk:∀ o e y,β o e=some y→o<h.length
structure hd(S:Nat→Prop)(D:c8)(β:dt)(w:World)(a5:c8)(a4:dt)(w':World):Prop where
 ext:Ext D β w a5 a4 w'
 bQ:∀ o e b k,¬ S o→β o e=some (b,k)→w'.heap[b]? = w.heap[b]? ∧ (a5 b→D b)
 iQ:∀ o e,¬ S o→a4 o e=β o e
theorem e5.frame[cf]{S:Nat→Prop}{D a5:c8}{β a4:dt}{w w':World}(aI:hd S D β w a5 a4 w'){o:Nat}(aC:¬ S o){x:a9}(h:e5 D β w o x):e5 a5 a4 w' o x:=by
 cases x with
 | gone=>trivial
 | row k elems aG =>
  refine⟨h.1,fun e b bg ab=>?_⟩
  rw[aI.iQ o e aC]at ab
  obtain⟨cR,an,he,af⟩:=h.2 e b bg ab
  obtain⟨hw,aF⟩:=aI.bQ o e b bg aC ab
  refine⟨fun x=>cR (aF x),an,he,fun hm=>?_⟩
  obtain⟨c,ty,ad,ag,aJ⟩:=af hm
  refine⟨c,ty,hw.trans ad,ag,fun i x j t hi U ax=>?_⟩
  obtain⟨v,az,h4,al⟩:=aJ i x j t hi U ax
  exact⟨v,az,h4,al.mono aI.ext⟩
 | map es =>
  intro e b k ab
  rw[aI.iQ o e aC]at ab
  obtain⟨bo,cR,mes,clock,ad,ag,mh,aJ⟩:=h e b k ab
  obtain⟨hw,aF⟩:=aI.bQ o e b k aC ab
  exact⟨bo,fun x=>cR (aF x),mes,clock,hw.trans ad,ag,mh,fun i m dF hm an=>⟨(aJ i m dF hm an).1,(aJ i m dF hm an).2.mono aI.ext⟩⟩
 | loop f env params assign body busy pending =>
  intro e b k ab
  rw[aI.iQ o e aC]at ab
  obtain⟨bo,cR,L,ad,ag,aJ,bL,dC,fQ,hP,mO⟩:=h e b k ab
  obtain⟨hw,aF⟩:=aI.bQ o e b k aC ab
  exact⟨bo,fun x=>cR (aF x),L,hw.trans ad,ag,aJ,bL,dC,fQ,hP,mO.mono aI.ext⟩
theorem Inv.step[cf]{S:Nat→Prop}{Z:hG}{D a5:c8}{β a4:dt}{w w':World}{h ai:aj}(hi:Inv Z D β h w)
  (ay:er Z a5 a4 w') (aI:hd S D β w a5 a4 w') (ae:∀ o:Nat,¬ S o→ai[o]? = h[o]?) (cE:∀(o:Nat) x,S o→ai[o]? = some x→e5 a5 a4 w' o x)
  (ao:h.length≤ai.length) (aF:∀ o e y,S o→a4 o e=some y→o<ai.length):Inv Z a5 a4 ai w':=by
 refine⟨ay,fun o x U=>?_,fun o e y ar=>?_⟩
 ·by_cases J:S o
  ·exact cE o x J U
  ·rw[ae o J]at U
   exact(hi.obj o x U).frame aI J
 ·by_cases J:S o
  ·exact aF o e y J ar
  ·rw[aI.iQ o e J]at ar
   exact w7 (hi.kk o e y ar) ao
end Go.Abs
/- Small laws on how values are stood for: cells,aggregates,plain values. -/
namespace Go.Abs
open Go
theorem zg{cs:List ah}{aq:List T}(h:e6 cs=some aq):cs=aq.map .t:=by
 induction cs generalizing aq with
 | nil=>simp[e6]at h;subst h;rfl
 | cons c r au =>
  cases c<;>simp only[e6]at h<;>try(exact absurd h (by simp))
  rename_i x
  cases al:e6 r with
  | none=>simp[al]at h
  | some xs=>simp[al]at h;subst h;simp[au al]
theorem Kq(aq:List T):e6 (aq.map .t)=some aq:=by
 induction aq with
 | nil=>rfl
 | cons x r au=>simp[e6,au]
theorem atD(aq:List T):kJ (aq.map .t)=.t (.agg aq):=by simp[kJ,Kq]
theorem ado(cs:List ah):(kJ cs).cells=cs:=by
 unfold kJ
 cases h:e6 cs with
 | none=>rfl
 | some aq=>simp[ah.cells,zg h]
section
variable{D:c8}{β:dt}{w:World}
theorem bf.dN{v:Value}{x:T}(h:bf D β w v (.t x)):eO D w v x:=by
 cases h with
 | t _ _ h=>exact h
theorem bf.kJ{cs:Array Value}{aq:List ah}(ao:cs.size=aq.length)(h:∀(i:Nat) v t,cs[i]? = some v→aq[i]? = some t→bf D β w v t):bf D β w (.agg cs) (kJ aq):=by
 unfold Go.Abs.kJ
 cases ae:e6 aq with
 | none=>exact .agg cs aq ao h
 | some xs =>
  have e:=zg ae
  subst e
  refine .t _ _ (.agg cs xs (by simpa using ao) fun i v t az ax=>?_)
  exact(h i v (.t t) az (by simp[ax])).dN
theorem bf.oC{cs:Array Value}{aq:List ah}(ao:cs.size=aq.length)(h:∀(i:Nat) v t,cs[i]? = some v→aq[i]? = some t→bf D β w v t):bf D β w (.tuple cs) (oC aq):=by
 unfold Go.Abs.oC
 cases ae:e6 aq with
 | none=>exact .ch cs aq ao h
 | some xs =>
  have e:=zg ae
  subst e
  refine .t _ _ (.ch cs xs (by simpa using ao) fun i v t az ax=>?_)
  exact(h i v (.t t) az (by simp[ax])).dN
theorem bf.cells{v:Value}{x:ah}(h:bf D β w v x)(U:x≠.dead) :
  v.cells.size=x.cells.length∧∀(j:Nat) c t,v.cells[j]? = some c→x.cells[j]? = some t→bf D β w c t:=by
 have single:∀ {v:Value} {x:ah},bf D β w v x→v.cells = #[v]→x.cells=[x] →
   v.cells.size=x.cells.length∧∀(j:Nat) c t,v.cells[j]? = some c→x.cells[j]? = some t→bf D β w c t:=by
  intro v x h aT aW
  rw[aT,aW]
  refine⟨rfl,fun j c t af ax=>?_⟩
  cases j with
  | zero=>simp at af ax;subst af;subst ax;exact h
  | succ j=>simp at af
 cases h with
 | dead v=>exact absurd rfl U
 | agg cs aq ao h=>exact⟨ao,h⟩
 | ch cs aq ao h=>exact single (.ch cs aq ao h) rfl rfl
 | fn f a b x y ae ab ad ag=>exact single (.fn f a b x y ae ab ad ag) rfl rfl
 | ref o e i off b k ab=>exact single (.ref o e i off b k ab) rfl rfl
 | k5 a o e i k clip bo=>exact single (.k5 a o e i k clip bo) rfl rfl
 | ms o e i len k clip b cap n ab hle fF gu aw dn hex=>exact single (.ms o e i len k clip b cap n ab hle fF gu aw dn hex) rfl rfl
 | mp o b k ab=>exact single (.mp o b k ab) rfl rfl
 | bF o b k ab=>exact single (.bF o b k ab) rfl rfl
 | t _ y h =>
  cases h with
  | aA v az =>
   refine single (.t _ _ (.aA v az)) ?_ rfl
   cases v<;>first|rfl|(simp[I7]at az)
  | agg cs aq ao h =>
   refine⟨by simpa[Value.cells,ah.cells]using ao,fun j c t af ax=>?_⟩
   simp only[ah.cells,eE,mH]at ax
   obtain⟨u,hu,rfl⟩:=ax
   exact .t _ _ (h j c u af hu)
  | ch cs aq ao h=>exact single (.t _ _ (.ch cs aq ao h)) rfl rfl
  | fn f a b x y ae ab ad ag=>exact single (.t _ _ (.fn f a b x y ae ab ad ag)) rfl rfl
  | ip b off cs cR c af h=>exact single (.t _ _ (.ip b off cs cR c af h)) rfl rfl
  | rF a cap clip k af=>exact single (.t _ _ (.rF a cap clip k af)) rfl rfl
  | aP b off len cap clip k xs cR hlen fF gu an c af h=>exact single (.t _ _ (.aP b off len cap clip k xs cR hlen fF gu an c af h)) rfl rfl
theorem PM{x:ah}(h:0<x.cells.length):x≠.dead:=by
 rintro rfl;simp[ah.cells]at h
theorem eO.cells{v:Value}{x:T}(h:eO D w v x) :
  v.cells.size=x.cells.length∧∀(j:Nat) c t,v.cells[j]? = some c→x.cells[j]? = some t→eO D w c t:=by
 have ai:=bf.cells (β:=fun _ _=>none) (.t _ _ h) (by simp)
 have e:(ah.t x).cells=x.cells.map .t:=by cases x<;>rfl
 rw[e]at ai
 refine⟨by simpa using ai.1,fun j c t af ax=>?_⟩
 exact(ai.2 j c (.t t) af (by simp[ax])).dN
theorem yG(x:T):(ah.t x).cells=x.cells.map .t:=by cases x<;>rfl
theorem acL{v:Value}{x:ah}(h:bf D β w v x)(U:x.isAgg=true):∃ cs,v=.agg cs:=by
 cases h<;>simp[ah.isAgg]at U
 ·rename_i h
  cases h<;>simp at U
  exact⟨_,rfl⟩
 ·exact⟨_,rfl⟩
theorem pc{v:Value}(h:iL v=true):eO D w v (fb v):=by
 by_cases ae:∃ cs,v=.agg cs
 ·obtain⟨cs,rfl⟩:=ae
  simp only[fb]
  refine .agg cs _ (by simp) fun i v t az ax=>?_
  simp only[eE,mH]at ax
  obtain⟨u,hu,rfl⟩:=ax
  have:u=v:=by simp at hu;rw[hu]at az;exact Option.some.inj az
  subst this
  refine .aA _ ?_
  simp only[iL,jY]at h
  exact h u (gp hu)
 ·have e:fb v=.aA v:=by cases v<;>first|rfl|(exact absurd ⟨_,rfl⟩ ae)
  rw[e]
  refine .aA v ?_
  cases v<;>first|rfl|(exact absurd ⟨_,rfl⟩ ae)
theorem axT{aq:List T}{vs:List Value}(h:yA aq=some vs):aq=vs.map .aA:=by
 induction aq generalizing vs with
 | nil=>simp[yA]at h;subst h;rfl
 | cons c r au =>
  cases c<;>simp only[yA]at h<;>try(exact absurd h (by simp))
  cases al:yA r with
  | none=>simp[al]at h
  | some xs=>simp[al]at h;subst h;simp[au al]
theorem eO.fS{v x:Value}(h:eO D w v (.aA x)):v=x∧I7 x=true:=by
 cases h with
 | aA v az=>exact⟨rfl,az⟩
theorem eO.val?{v bU:Value}{x:T}(h:eO D w v x)(U:x.val? = some bU):v=bU:=by
 cases h with
 | aA v az=>simp[T.val?]at U;exact U
 | agg cs aq ao h =>
  simp only[T.val?]at U
  cases J:yA aq with
  | none=>simp[J]at U
  | some vs =>
   simp[J]at U
   subst U
   have e:=axT J
   subst e
   congr 1
   apply vB
   simp only
   apply y1
   intro i
   by_cases hi:i<cs.size
   ·have ad:cs[i]? = some cs[i]:=by simp[hi]
    have fz:i<vs.length:=by simpa[ao]using hi
    have ag:(vs.map T.aA)[i]? = some (.aA vs[i]):=by simp[fz]
    have:=(h i cs[i] (.aA vs[i]) ad ag).fS
    simp[hi,fz,this.1]
   ·have fz:¬ i<vs.length:=by simpa[ao]using hi
    simp[hi,fz]
 | _=>simp[T.val?]at U
theorem bf.val?{v bU:Value}{x:ah}(h:bf D β w v x)(U:x.val? = some bU):v=bU:=by
 cases x<;>simp[ah.val?]at U
 exact h.dN.val? U
end
end Go.Abs
/- What the model's own small computations come to,given what the evaluator has looked up. -/
namespace Go.Abs
open Go
variable{P:Program}
theorem Vu{α:Type}{m:Sem α}{a:α}(h:jQ P m=some a)(w:World):m.run P w=.ok a w:=by
 induction m with
 | pure x=>simp[jQ]at h;subst h;rfl
 | program k au=>simp only[jQ]at h;simp only[Sem.run];exact au P h
 | _=>simp[jQ]at h
theorem run_underlying{t:TypeId}{d:TypeDesc}(h:dB P t=some d)(w:World):(underlying t).run P w=.ok d w:=by
 simp only[dB]at h
 simp[underlying,program,Sem.run,h,bind,Sem.bind,pure]
theorem run_typeInfo{t:TypeId}{i:TypeInfo}(h:P.info? t=some i)(w:World):(typeInfo t).run P w=.ok i w:=by
 simp[typeInfo,program,Sem.run,h,bind,Sem.bind,pure]
theorem V2{t:TypeId}{n:Nat}(h:eM P t=some n):∃ i,P.info? t=some i∧i.size=n:=by
 unfold eM at h
 cases hi:P.info? t with
 | none=>simp[hi]at h
 | some i=>simp[hi]at h;exact⟨i,rfl,h⟩
theorem Xt{t:TypeId}{n:Nat}(h:uD P t=some n):∃ i,P.info? t=some i∧i.bytes=n:=by
 unfold uD at h
 cases hi:P.info? t with
 | none=>simp[hi]at h
 | some i=>simp[hi]at h;exact⟨i,rfl,h⟩
theorem run_sizeOf{t:TypeId}{n:Nat}(h:eM P t=some n)(w:World):(Go.sizeOf t).run P w=.ok n w:=by
 obtain⟨i,hi,rfl⟩:=V2 h
 simp[Go.sizeOf,run_typeInfo hi,Result.andThen]
theorem AF{t:TypeId}{z:T}(h:zeroOf P t=some z):∃ v,iL v=true∧z=fb v∧∀ w,(zeroValue t).run P w=.ok v w:=by
 unfold zeroOf at h
 cases hi:P.info? t with
 | none=>simp[hi]at h
 | some i =>
  simp only[hi]at h
  cases bl:i.zero with
  | none=>simp[bl]at h
  | some v =>
   simp only[bl]at h
   by_cases aC:iL v=true
   ·simp[aC]at h
    exact⟨v,aC,h.symm,fun w=>by simp[zeroValue,run_typeInfo hi,Result.andThen,bl,Sem.run,pure]⟩
   ·simp[aC]at h
theorem NJ{t:TypeId}{b:Bool}(h:nJ P t=some b)(w:World):(isAgg t).run P w=.ok b w:=by
 unfold nJ at h
 cases aF:P.underlying t with
 | none=>simp[aF]at h
 | some d =>
  simp only[aF]at h
  simp only[isAgg,Sem.run_bind,run_underlying (t:=t) (d:=d) aF,Result.andThen]
  cases d<;>simp at h<;>subst h<;>rfl
theorem xb(b off n:Nat):(⟨b,off,none⟩:Addr).add n=⟨b,off+n,none⟩:=by
 unfold Addr.add
 by_cases h:n=0
 ·simp[h]
 ·simp[h]
theorem run_load{w:World}{a:Addr}{v:Value}(h:w.cell? a=some v):(load a).run P w=.ok v w:=by
 simp[load,Sem.run,h]
theorem run_loadCellsFrom{w:World}{b off:Nat}{c:Nat→Value}(n i:Nat)(acc:Array Value)(h:∀ j,i≤j→j<i+n→w.cell? ⟨b,off+j,none⟩=some (c j)) :
  (loadCellsFrom ⟨b,off,none⟩ i n acc).run P w=.ok (acc++((List.range' i n).map c).toArray) w:=by
 induction n generalizing i acc with
 | zero=>simp[loadCellsFrom,Sem.run,pure]
 | succ n au =>
  have bo:w.cell? ((⟨b,off,none⟩:Addr).add i)=some (c i):=by rw[xb];exact h i (bP _) (by omega)
  simp only[loadCellsFrom,Sem.run_bind,run_load bo,Result.andThen]
  rw[au (i+1) (acc.push (c i)) (fun j ad ag=>h j (by omega) (by omega))]
  congr 1
  apply vB
  simp[vA]
theorem run_loadCells{w:World}{b off:Nat}{c:Nat→Value}(n:Nat)(h:∀ j,j<n→w.cell? ⟨b,off+j,none⟩=some (c j)) :
  (loadCells ⟨b,off,none⟩ n).run P w=.ok ((List.range n).map c).toArray w:=by
 have:=run_loadCellsFrom (P:=P) (w:=w) (b:=b) (off:=off) (c:=c) n 0 #[] (fun j _ ag=>h j (by omega))
 simpa[loadCells,sZ]using this
def wrote(w:World)(b off:Nat):List Value→World
 | []=>w
 | v::r=>wrote (w.setCell ⟨b,off,none⟩ v) b (off+1) r
theorem JI(vs:List Value):∀(w:World) (b off:Nat) (c:Array Value) (ty:TypeId) (bQ:Nat × Nat),w.heap[b]? = some (.cells c ty bQ)→off+vs.length≤c.size →
  (wrote w b off vs).heap.size=w.heap.size∧(wrote w b off vs).os=w.os∧(wrote w b off vs).output=w.output ∧
  (∀ bS,bS≠b→(wrote w b off vs).heap[bS]? = w.heap[bS]?) ∧
  ∃ c',(wrote w b off vs).heap[b]? = some (.cells c' ty bQ)∧c'.size=c.size∧∀ j:Nat,c'[j]? = if off≤j∧j<off+vs.length then vs[j-off]? else c[j]?:=by
 induction vs with
 | nil =>
  intro w b off c ty bQ ab ao
  refine⟨rfl,rfl,rfl,fun _ _=>rfl,c,ab,rfl,fun j=>?_⟩
  rw[a2 (by simp only[lF];omega)]
 | cons v r au =>
  intro w b off c ty bQ ab ao
  have j3:off<c.size:=by simp at ao;omega
  have aB:b<w.heap.size:=(s6.1 ab).1
  have ad:(w.setCell ⟨b,off,none⟩ v).heap[b]? = some (.cells (c.setIfInBounds off v) ty bQ):=by
   simp only[World.setCell,F2,cQ,ab,r5]
   rfl
  obtain⟨aT,aW,bw,cB,c',bZ,hW,mL⟩:=au (w.setCell ⟨b,off,none⟩ v) b (off+1) _ ty bQ ad (by simp at ao ⊢;omega)
  refine⟨?_,?_,?_,?_,c',bZ,?_,?_⟩
  ·simp only[wrote];rw[aT];simp
  ·simp only[wrote];rw[aW];rfl
  ·simp only[wrote];rw[bw];rfl
  ·intro bS cS
   simp only[wrote]
   rw[cB bS cS]
   simp only[World.setCell,F2]
   rw[a2 (fun h=>cS h.symm)]
  ·rw[hW];simp
  ·intro j
   rw[mL j]
   by_cases aU:off+1≤j∧j<off+1+r.length
   ·rw[a6 aU,a6 (by simp;omega)]
    have:j-off=(j-(off+1))+1:=by omega
    rw[this];simp
   ·rw[a2 aU]
    by_cases rf:j=off
    ·subst rf
     rw[a6 (by simp)]
     simp[j3]
    ·rw[a2 (by simp;omega)]
     simp[yZ,Ne.symm rf]
theorem NL(vs:List Value):∀(w:World) (b off i:Nat) (c:Array Value) (ty:TypeId),w.heap[b]? = some (.cells c ty (0,0))→off+i+vs.length≤c.size→(∀ v∈vs,mv v=true) →
  (storeCells ⟨b,off,none⟩ vs i).run P w=.ok () (wrote w b (off+i) vs):=by
 induction vs with
 | nil=>intro w b off i c ty _ _ _;simp[storeCells,Sem.run,pure,wrote]
 | cons v r au =>
  intro w b off i c ty ab ao aC
  have j3:off+i<c.size:=by simp at ao;omega
  have af:w.cell? ⟨b,off+i,none⟩=some c[off+i]:=by simp[World.cell?,ab,j3]
  have aI:w.frozen? ⟨b,off+i,none⟩=false:=by simp[World.frozen?,ab]
  have az:mv v=true:=aC v (by simp)
  have aS:(store ((⟨b,off,none⟩:Addr).add i) v).run P w=.ok () (w.setCell ⟨b,off+i,none⟩ v):=by
   rw[xb]
   unfold store
   cases v<;>first|(simp only[Sem.run,af,aI];rfl)|(simp[mv]at az)
  have ad:(w.setCell ⟨b,off+i,none⟩ v).heap[b]? = some (.cells (c.setIfInBounds (off+i) v) ty (0,0)):=by
   simp only[World.setCell,F2,cQ,ab,r5]
   rfl
  simp only[storeCells,Sem.run_bind,aS,Result.andThen]
  rw[au (w.setCell ⟨b,off+i,none⟩ v) b off (i+1) _ ty ad (by simp at ao ⊢;omega) (fun u hu=>aC u (by simp[hu]))]
  simp only[wrote]
  rfl
theorem Ft(w:World)(ty:TypeId)(c:Array Value):(Go.newRow ty c).run P w=.ok ⟨w.heap.size,0,none⟩ (w.alloc (.cells c ty (0,0))):=by
 rfl
end Go.Abs
/- The operations that leave the abstract heap alone: loads,addresses,slices,fields,literals,comparisons. -/
namespace Go.Abs
open Go
variable{P:Program}{D:c8}{β:dt}{w:World}
theorem A3{v:Value}{x:ah}{n:Nat}(h:bf D β w v x)(U:asNat x=some n):∃ k,v=.int k n:=by
 unfold asNat at U
 split at U
 ·rename_i k m
  obtain⟨rfl,_⟩:=h.dN.fS
  by_cases hm:0≤m
  ·simp[hm]at U;subst U;exact⟨k,by rw[uw hm]⟩
  ·simp[hm]at U
 ·simp at U
theorem aeY{t:TypeId}{cs:List T}{x:T}(h:tX P t cs=some x):tW P t (cs.map .t)=some (.t x):=by
 unfold tX at h
 unfold tW
 cases ae:nJ P t with
 | none=>simp[ae]at h
 | some b =>
  cases b with
  | true =>
   cases J:eM P t with
   | none=>simp[ae,J]at h
   | some n =>
    simp only[ae,J]at h ⊢
    by_cases aw:n≤cs.length
    ·rw[a6 aw]at h
     rw[a6 (by simpa using aw)]
     simp at h
     rw[← h,← y7,atD]
    ·simp[aw]at h
  | false =>
   simp only[ae]at h ⊢
   cases cs with
   | nil=>simp at h
   | cons c r=>simp at h;simp[h]
theorem aeq{t:TypeId}{cs:List ah}{x:ah}{b off:Nat}{c:Nat→Value}(h:tW P t cs=some x)
  (af:∀ j,j<cs.length→w.cell? ⟨b,off+j,none⟩=some (c j)) (al:∀(j:Nat) u,cs[j]? = some u→bf D β w (c j) u) :
  ∃ v,(loadVar t ⟨b,off,none⟩).run P w=.ok v w∧bf D β w v x:=by
 unfold tW at h
 cases ae:nJ P t with
 | none=>simp[ae]at h
 | some Dh =>
  cases Dh with
  | true =>
   cases J:eM P t with
   | none=>simp[ae,J]at h
   | some n =>
    simp only[ae,J]at h
    by_cases aw:n≤cs.length
    ·rw[a6 aw]at h
     simp at h
     subst h
     refine⟨_,by simp only[loadVar,Sem.run_bind,NJ ae,Result.andThen,run_sizeOf J,cQ,run_loadCells n (fun j aU=>af j (by omega))];rfl,?_⟩
     refine bf.kJ (by simp;omega) fun i v u az hu=>?_
     have hi:i<n:=by
      have:=(cD.1 hu).1
      simp at this;omega
     have e:c i=v:=by simpa[hi]using az
     subst e
     exact al i u (by simpa[l4,hi]using hu)
    ·simp[aw]at h
  | false =>
   simp only[ae]at h
   cases cs with
   | nil=>simp at h
   | cons d r =>
    simp at h
    subst h
    have bo:=af 0 (by simp)
    exact⟨c 0,by simp only[loadVar,Sem.run_bind,NJ ae,Result.andThen];simpa using run_load (by simpa using bo),al 0 d (by simp)⟩
theorem ui.cell{o k:Nat}{elems:List ah}{aG e b bg i:Nat}{x:ah}(h:ui D β w o k elems aG)(ab:β o e=some (b,bg))(hm:aG≤e)(hi:i<e)(U:elems[i]? = some x) :
  bg=k∧∃ c:Nat→Value,∀(j:Nat) u,x.cells[j]? = some u→w.cell? ⟨b,i*k+j,none⟩=some (c j)∧mv (c j)=true∧bf D β w (c j) u:=by
 obtain⟨cR,an,he,af⟩:=h.2 e b bg ab
 obtain⟨c,ty,ad,ag,aJ⟩:=af hm
 refine⟨an,fun j=>(c[i*k+j]?).getD default,fun j u hu=>?_⟩
 obtain⟨v,az,ck,al⟩:=aJ i x j u hi U hu
 simp only[az,na]
 exact⟨by simp[World.cell?,ad,az],ck,al⟩
theorem aeh{h:aj}{o e i:Nat}{x:ah}(al:rowAt h o e i=some x):∃ k elems aG,h[o]? = some (.row k elems aG)∧aG≤e∧i<e∧e≤elems.length∧elems[i]? = some x:=by
 unfold rowAt at al
 split at al
 ·rename_i k elems aG aC
  by_cases af:aG≤e∧i<e∧e≤elems.length
  ·rw[a6 af]at al
   exact⟨k,elems,aG,aC,af.1,af.2.1,af.2.2,al⟩
  ·simp[af]at al
 ·simp at al
theorem W4[cf]{h:aj}{t:TypeId}{a x:ah}{AB:Value}(ao:xa P t a h=some x)(ae:bf D β w AB a)
  (b4:∀(o:Nat) y,o∈cl a→h[o]? = some y→e5 D β w o y):∃ v,(Instr.loadAt t AB).run P w=.ok v w∧bf D β w v x:=by
 unfold xa at ao
 split at ao
 ·rename_i cs
  have ax:=ae.dN
  cases ax with
  | ip b off cs cR c af al =>
   cases az:tX P t cs with
   | none=>simp[az]at ao
   | some y =>
    simp[az]at ao
    subst ao
    have:=aeq (P:=P) (D:=D) (β:=β) (w:=w) (aeY az) (b:=b) (off:=off) (c:=c) (fun j aU=>(af j (by simpa using aU)).1)
     (fun j u hu=>by
      simp only[eE,mH]at hu
      obtain⟨iN,mo,rfl⟩:=hu
      exact .t _ _ (al j iN mo))
    obtain⟨v,ad,ag⟩:=this
    exact⟨v,by simpa[Instr.loadAt,Instr.sureAddr,Sem.run,pure,Result.andThen]using ad,ag⟩
 ·rename_i o e i off
  cases al:rowAt h o e i with
  | none=>simp[al]at ao
  | some y =>
   simp only[al]at ao
   obtain⟨k,elems,aG,aC,hm,hi,he,ar⟩:=aeh al
   have ck:=b4 o _ (by simp[cl]) aC
   cases ae with
   | ref _ _ _ _ b bg ab =>
    obtain⟨rfl,c,lk⟩:=ui.cell ck ab hm hi ar
    have:=aeq (P:=P) (D:=D) (β:=β) (w:=w) ao (b:=b) (off:=i*bg+off) (c:=fun j=>c (off+j))
     (fun j aU=>by
      have aB:off+j<y.cells.length:=by simp at aU;omega
      have:=lk (off+j) y.cells[off+j] (by simp[aB])
      rw[uq];exact this.1)
     (fun j u hu=>by
      simp only[nF]at hu
      exact(lk (off+j) u hu).2.2)
    obtain⟨v,ad,ag⟩:=this
    exact⟨v,by simpa[Instr.loadAt,Instr.sureAddr,Sem.run,pure,Result.andThen]using ad,ag⟩
 ·simp at ao
theorem W2{s:TypeId}{f:Nat}{t:TypeId}{off:Nat}(h:ze P s f=some (t,off)) :
  ∃ fields fd n,dB P s=some (.struct fields)∧fields[f]? = some fd∧fd.type=t∧fd.offset=off∧eM P fd.type=some (n+1):=by
 unfold ze at h
 split at h
 ·rename_i fields J
  split at h
  ·rename_i fd aI
   split at h
   ·rename_i n aw
    simp at h
    exact⟨fields,fd,n,J,aI,h.1,h.2,aw⟩
   ·simp at h
  ·simp at h
 ·simp at h
theorem agw{s:TypeId}{x y:ah}{f:Nat}{cm:Value}(h:Kn P s x f=some y)(U:bf D β w cm x) :
  ∃ v,(Instr.fieldAt s cm f).run P w=.ok v w∧bf D β w v y:=by
 unfold Kn at h
 cases aI:ze P s f with
 | none=>simp[aI]at h
 | some r =>
  obtain⟨t,off⟩:=r
  obtain⟨fields,fd,n,J,Rm,rfl,rfl,aw⟩:=W2 aI
  simp only[aI]at h
  have dT:∀ b o,(Instr.fieldAt s (.pointer (some ⟨b,o,none⟩)) f).run P w=.ok (.pointer (some ⟨b,o+fd.offset,none⟩)) w:=by
   intro b o
   simp only[Instr.fieldAt,Sem.run_bind,run_underlying J,Result.andThen,Rm]
   simp[Instr.sureAddr,fieldPlace,run_sizeOf aw,Result.andThen,Sem.run,pure,xb]
  split at h
  ·rename_i cs
   simp at h
   subst h
   have ax:=U.dN
   cases ax with
   | ip b o cs cR c af al =>
    refine⟨_,dT b o,.t _ _ (.ip b (o+fd.offset) _ cR (fun j=>c (fd.offset+j)) (fun j aU=>?_) (fun j u hu=>?_))⟩
    ·rw[uq];exact af _ (by simp at aU;omega)
    ·simp only[nF]at hu
     exact al _ u hu
  ·rename_i o e i k
   simp at h
   subst h
   cases U with
   | ref _ _ _ _ b bg ab =>
    refine⟨_,dT b _,?_⟩
    rw[uq]
    exact .ref o e i _ b bg ab
  ·simp at h
theorem Cy(k:IntKind)(n:Int):(asIntOf (.int k n)).run P w=.ok (k,n) w:=rfl
theorem agy{t:TypeId}{x ix y:ah}{cm k8:Value}(h:Gn P t x ix=some y)(U:bf D β w cm x)(hi:bf D β w k8 ix) :
  ∃ v,(Instr.indexAt t cm k8).run P w=.ok v w∧bf D β w v y:=by
 unfold Gn at h
 split at h
 ·rename_i len elem k ax an
  obtain⟨HZ,rfl⟩:=A3 hi an
  cases J:eM P elem with
  | none=>simp[J]at h
  | some size =>
   simp only[J]at h
   by_cases aB:k<len
   ·rw[a6 aB]at h
    have dT:∀ b o,(Instr.indexAt t (.pointer (some ⟨b,o,none⟩)) (.int HZ k)).run P w=.ok (.pointer (some ⟨b,o+k*size,none⟩)) w:=by
     intro b o
     simp only[Instr.indexAt,Sem.run_bind,Cy,run_underlying ax,Result.andThen,Instr.sureAddr]
     have af:(0:Int)≤k∧(k:Int)<len:=by omega
     simp[Sem.run,pure,Result.andThen,run_underlying ax,run_sizeOf J,xb,af]
    split at h
    ·simp at h
     subst h
     have tE:=U.dN
     cases tE with
     | ip b o cs cR c af al =>
      refine⟨_,dT b o,.t _ _ (.ip b (o+k*size) _ cR (fun j=>c (k*size+j)) (fun j aU=>?_) (fun j u hu=>?_))⟩
      ·rw[uq];exact af _ (by simp at aU;omega)
      ·simp only[nF]at hu
       exact al _ u hu
    ·rename_i o e i off
     simp at h
     subst h
     cases U with
     | ref _ _ _ _ b bg ab =>
      refine⟨_,dT b _,?_⟩
      rw[uq]
      exact .ref o e i _ b bg ab
    ·simp at h
   ·simp[aB]at h
 ·rename_i elem j ax aU
  obtain⟨HZ,rfl⟩:=A3 hi aU
  have dT:∀(b o len cap size:Nat),eM P elem=some size→j<len→(Instr.indexAt t (.slice (some ⟨b,o,none⟩) len cap) (.int HZ j)).run P w=.ok (.pointer (some ⟨b,o+j*size,none⟩)) w:=by
   intro b o len cap size J aB
   simp only[Instr.indexAt,Sem.run_bind,Cy,run_underlying ax,Result.andThen]
   have af:(0:Int)≤j∧(j:Int)<len:=by omega
   simp[Sem.run,pure,Result.andThen,run_underlying ax,run_sizeOf J,xb,af]
  split at h
  ·rename_i clip k xs size J
   cases az:xs[j]? with
   | none=>simp[az]at h
   | some v =>
    simp only[az]at h
    by_cases an:k=size
    ·subst an
     simp at h
     subst h
     have tE:=U.dN
     cases tE with
     | rF=>simp at az
     | aP b o len cap _ _ _ cR hlen fF gu zG c af al =>
      have zD:j<len:=by rw[hlen];exact(cD.1 az).1
      have aac:=zG j v az
      refine⟨_,dT b o len cap k J zD,.t _ _ (.ip b (o+j*k) _ cR (fun i=>c (j*k+i)) (fun i fz=>?_) (fun i u hu=>al j v i u az hu))⟩
      rw[uq]
      refine af _ ?_
      have ad:(j+1)*k≤len*k:=jB k zD
      have ag:(j+1)*k=j*k+k:=oh j k
      omega
    ·simp[an]at h
  ·rename_i o e i len k clip size J
   by_cases af:j<len∧k=size
   ·rw[a6 af]at h
    obtain⟨zD,rfl⟩:=af
    simp at h
    subst h
    cases U with
    | k5=>omega
    | ms _ _ _ _ _ _ b cap n ab hle fF gu aw dn hex =>
     refine⟨_,dT b (i*k) len cap k J zD,?_⟩
     have:i*k+j*k=(i+j)*k+0:=by rw[lE];omega
     rw[this]
     exact .ref o e (i+j) 0 b k ab
   ·simp[af]at h
  ·simp at h
 ·simp at h
theorem VI{t:TypeId}{cs:Array Value}{xs:List ah}{off:Nat}{y:ah}(h:tW P t (xs.drop off)=some y)(ao:cs.size=xs.length)
  (al:∀(i:Nat) v x,cs[i]? = some v→xs[i]? = some x→bf D β w v x):∃ v,(part t cs off).run P w=.ok v w∧bf D β w v y:=by
 unfold tW at h
 cases ae:nJ P t with
 | none=>simp[ae]at h
 | some Dh =>
  cases Dh with
  | true =>
   cases J:eM P t with
   | none=>simp[ae,J]at h
   | some n =>
    simp only[ae,J]at h
    by_cases aw:n≤(xs.drop off).length
    ·rw[a6 aw]at h
     simp at h
     subst h
     refine⟨.agg (cs.extract off (off+n)),by simp[part,NJ ae,run_sizeOf J,Result.andThen,Sem.run,pure],?_⟩
     refine bf.kJ (by simp at aw ⊢;omega) fun i v u az hu=>?_
     have hi:i<n:=by
      have:=(cD.1 hu).1
      simp at this;omega
     refine al (off+i) v u ?_ (by simpa[l4,hi]using hu)
     rw[Array.getElem?_extract]at az
     split at az
     ·exact az
     ·simp at az
    ·rw[a2 aw]at h;simp at h
  | false =>
   simp only[ae]at h
   have bo:xs[off]? = some y:=by
    cases aF:xs.drop off with
    | nil=>simp[aF]at h
    | cons c r =>
     simp[aF]at h
     subst h
     have:=nF (xs:=xs) (i:=off) (j:=0)
     simpa[aF]using this.symm
   have aB:off<cs.size:=by rw[ao];exact(cD.1 bo).1
   refine⟨cs[off],by simp[part,NJ ae,Result.andThen,Sem.run,pure,aB],al off _ y (by simp[aB]) bo⟩
theorem agx{s:TypeId}{x y:ah}{f off:Nat}{t:TypeId}{cm:Value}(aI:ze P s f=some (t,off))(ae:x.isAgg=true)(h:tW P t (x.cells.drop off)=some y)(U:bf D β w cm x) :
  ∃ v,(Instr.field s cm f).run P w=.ok v w∧bf D β w v y:=by
 obtain⟨fields,fd,n,J,Rm,rfl,rfl,aw⟩:=W2 aI
 obtain⟨cs,rfl⟩:=acL U ae
 have af:=U.cells (by rintro rfl;simp[ah.isAgg]at ae)
 obtain⟨v,ad,ag⟩:=VI (P:=P) h af.1 af.2
 have qf:(part fd.type cs fd.offset).run P w=.ok v w:=ad
 exact⟨v,by simpa[Instr.field,run_underlying J,Result.andThen,Rm,asAgg,Sem.run,pure]using qf,ag⟩
theorem agz{t:TypeId}{x ix y:ah}{cm k8:Value}(h:Ko P t x ix=some y)(U:bf D β w cm x)(hi:bf D β w k8 ix) :
  ∃ v,(Instr.index t cm k8).run P w=.ok v w∧bf D β w v y:=by
 unfold Ko at h
 split at h
 ·rename_i len elem k ax an
  obtain⟨HZ,rfl⟩:=A3 hi an
  split at h
  ·rename_i size J ae
   by_cases aB:k<len
   ·rw[a6 aB]at h
    obtain⟨cs,rfl⟩:=acL U ae
    have af:=U.cells (by rintro rfl;simp[ah.isAgg]at ae)
    obtain⟨v,ad,ag⟩:=VI (P:=P) h af.1 af.2
    refine⟨v,?_,ag⟩
    have qf:(part elem cs (k*size)).run P w=.ok v w:=ad
    simpa[Instr.index,Cy,run_underlying ax,Result.andThen,aB,run_sizeOf J]using qf
   ·simp[aB]at h
  ·simp at h
 ·rename_i k ax an
  obtain⟨HZ,rfl⟩:=A3 hi an
  split at h
  ·rename_i s
   obtain⟨rfl,_⟩:=U.dN.fS
   split at h
   ·rename_i b ab
    simp at h
    subst h
    refine⟨.int .u8 b.toNat,?_,.t _ _ (.aA _ rfl)⟩
    simp[Instr.index,Cy,run_underlying ax,Result.andThen,ab,Sem.run,pure]
   ·simp at h
  ·simp at h
 ·simp at h
end Go.Abs
/- Slicing,literals of structs and arrays. -/
namespace Go.Abs
open Go
variable{P:Program}{D:c8}{β:dt}{w:World}
def AK(D:c8)(β:dt)(w:World):Option Value→Option ah→Prop
 | none,none=>True
 | some v,some x=>bf D β w v x
 | _,_=>False
theorem NK{v:Value}{x:ah}{n y:Nat}(h:bf D β w v x)(U:asNat x=some n)(aw:n≤y)(code:BoundsCode):(Instr.sliceBound v y code).run P w=.ok n w:=by
 obtain⟨k,rfl⟩:=A3 h U
 have af:(0:Int)≤n∧(n:Int)≤y:=by omega
 simp[Instr.sliceBound,Cy,Result.andThen,af,Sem.run,pure]
theorem Fu{isSlice:Bool}{len cap l u:Nat}{lo hi gM:Option Value}{Oo CU JL:Option ah}(ad:AK D β w lo Oo)(ag:AK D β w hi CU)(aJ:AK D β w gM JL)
  (ao:hM 0 Oo=some l) (hu:hM len CU=some u) (sr:l≤u) (jr:u≤len) (Hs:len≤cap) (hm:∀ m,JL=some m→asNat m=some u∧CU.isSome=true) :
  (Instr.sliceBounds isSlice len cap lo hi gM).run P w=.ok (l,u,if JL.isSome then u else cap) w:=by
 have low:(lo=none∧l=0)∨∃ v,lo=some v∧∀ code,(Instr.sliceBound v u code).run P w=.ok l w:=by
  cases lo with
  | none=>cases Oo with
   | none=>simp[hM]at ao;exact .inl ⟨rfl,ao.symm⟩
   | some _=>exact ad.elim
  | some v=>cases Oo with
   | none=>exact ad.elim
   | some x=>exact .inr ⟨v,rfl,fun code=>NK ad (by simpa[hM]using ao) sr code⟩
 cases gM with
 | none =>
  cases JL with
  | some _=>exact aJ.elim
  | none =>
   cases hi with
   | none=>cases CU with
    | some _=>exact ag.elim
    | none =>
     simp[hM]at hu
     subst hu
     rcases low with⟨rfl,rfl⟩|⟨v,rfl,ab⟩
     ·simp[Instr.sliceBounds,Result.andThen,pure,Sem.run]
     ·simp[Instr.sliceBounds,Result.andThen,pure,Sem.run,ab]
   | some v=>cases CU with
    | none=>exact ag.elim
    | some x =>
     have j1:=fun code=>NK (P:=P) ag (by simpa[hM]using hu) (kP jr Hs) code
     rcases low with⟨rfl,rfl⟩|⟨v,rfl,ab⟩
     ·simp[Instr.sliceBounds,Result.andThen,pure,Sem.run,j1]
     ·simp[Instr.sliceBounds,Result.andThen,pure,Sem.run,ab,j1]
 | some aDj =>
  cases JL with
  | none=>exact aJ.elim
  | some m =>
   obtain⟨h5,iF⟩:=hm m rfl
   have Lh:=fun code=>NK (P:=P) aJ h5 (kP jr Hs) code
   cases hi with
   | none=>cases CU with
    | some _=>exact ag.elim
    | none=>simp at iF
   | some v=>cases CU with
    | none=>exact ag.elim
    | some x =>
     have j1:=fun code=>NK (P:=P) ag (by simpa[hM]using hu) (bP u) code
     rcases low with⟨rfl,rfl⟩|⟨v,rfl,ab⟩
     ·simp[Instr.sliceBounds,Result.andThen,pure,Sem.run,j1,Lh]
     ·simp[Instr.sliceBounds,Result.andThen,pure,Sem.run,ab,j1,Lh]
theorem X2{α:Type}(xs:List α)(l u i:Nat):((xs.take u).drop l)[i]? = if l+i<u then xs[l+i]? else none:=by
 rw[nF,l4]
theorem eO.cut{a:Option Addr}{len cap:Nat}{clip:Bool}{k:Nat}{xs:List T}(h:eO D w (.slice a len cap) (.aP clip k xs)){l u m:Nat}(sr:l≤u)(jr:u≤xs.length)(aoC:u≤m)(anM:m≤cap)
  (zo:Bool) (dx:zo=true→m=u):eO D w (.slice (if m=l then a else a.map (·.add (l*k))) (u-l) (m-l)) (.aP zo k ((xs.take u).drop l)):=by
 by_cases he:u=l
 ·subst he
  have e:(xs.take u).drop u=[]:=by simp
  rw[e,nC]
  exact .rF _ _ _ _ (fun af=>by rw[dx af];omega)
 ·cases h with
  | rF=>simp at jr;omega
  | aP b off _ _ _ _ _ cR hlen fF gu an c af al =>
   rw[a2 (by omega)]
   simp only[r5,xb]
   refine .aP b (off+l*k) _ _ zo k _ cR (by simp;omega) (by omega) (fun af=>by rw[dx af]) (fun i x U=>?_) (fun j=>c (l*k+j)) (fun j aU=>?_) (fun i x j t U ax=>?_)
   ·rw[X2]at U
    split at U
    ·exact an _ x U
    ·simp at U
   ·rw[uq]
    refine af _ ?_
    have ad:(u-l)*k+l*k=u*k:=by rw[← lE];congr 1;omega
    have ag:u*k≤len*k:=jB k (by omega)
    omega
   ·rw[X2]at U
    split at U
    ·have:=al _ x j t U ax
     have e:(l+i)*k+j=l*k+(i*k+j):=by rw[lE];omega
     rwa[e]at this
    ·simp at U
theorem bf.FA{v:Value}{clip:Bool}{k:Nat}{xs:List T}(h:eO D w v (.aP clip k xs)):∃ a cap,v=.slice a xs.length cap∧xs.length≤cap∧(clip=true→cap=xs.length):=by
 cases h with
 | rF a cap _ _ af=>exact⟨a,cap,rfl,by simp,by simpa using af⟩
 | aP b off len cap _ _ _ cR hlen fF gu an c af al=>subst hlen;exact⟨_,cap,rfl,fF,gu⟩
theorem Nh{v:Value}{o e i len k:Nat}{clip:Bool}(h:bf D β w v (.ms o e i len k clip)):∃ a cap,v=.slice a len cap∧len≤cap∧(clip=true→cap=len):=by
 cases h with
 | k5 a=>exact⟨a,0,rfl,bP _,fun _=>rfl⟩
 | ms _ _ _ _ _ _ b cap n ab hle fF gu aw dn hex=>exact⟨_,cap,rfl,fF,gu⟩
theorem bf.adr{a:Option Addr}{len cap o e i k:Nat}{clip:Bool}(h:bf D β w (.slice a len cap) (.ms o e i len k clip)){l u m:Nat}(sr:l≤u)(jr:u≤len)(aoC:u≤m)(anM:m≤cap)
  (zo:Bool) (dx:zo=true→m=u) (xF:zo=false→m=cap∧(clip=false∨e≤i+cap)):bf D β w (.slice (if m=l then a else a.map (·.add (l*k))) (u-l) (m-l)) (.ms o e (i+l) (u-l) k zo):=by
 cases h with
 | k5 _ _ _ _ _ _ bo =>
  have ad:u-l=0:=by omega
  have ag:m-l=0:=by omega
  rw[ad,ag]
  refine .k5 _ _ _ _ _ _ fun af=>?_
  obtain⟨_,q⟩:=xF af
  rcases q with q|q
  ·have:=bo q;omega
  ·omega
 | ms _ _ _ _ _ _ b _ n ab hle fF gu aw dn hex =>
  by_cases RI:m=l
  ·have ad:u-l=0:=by omega
   have ag:m-l=0:=by omega
   rw[ad,ag]
   refine .k5 _ _ _ _ _ _ fun af=>?_
   obtain⟨a3,q⟩:=xF af
   rcases q with q|q
   ·have:=hex q;omega
   ·omega
  ·rw[a2 RI]
   simp only[r5,xb]
   have aT:i*k+l*k=(i+l)*k:=by rw[lE]
   rw[aT]
   refine .ms o e (i+l) (u-l) k zo b (m-l) n ab (by omega) (by omega) (fun af=>by rw[dx af]) aw ?_ ?_
   ·have ad:i+l+(m-l)=i+m:=by omega
    rw[ad]
    exact kP (jB k (by omega)) dn
   ·intro af
    obtain⟨a3,a7⟩:=xF af
    rcases a7 with a7|a7
    ·have:=hex a7;omega
    ·omega
theorem agE{t:TypeId}{x y:ah}{lo hi gM:Option ah}{cm:Value}{afn afl Wd:Option Value}(h:r8 P t x lo hi gM=some y)(U:bf D β w cm x)
  (ad:AK D β w afn lo) (ag:AK D β w afl hi) (aJ:AK D β w Wd gM):∃ v,(Instr.sliceAt t cm afn afl Wd).run P w=.ok v w∧bf D β w v y:=by
 unfold r8 at h
 split at h
 ·rename_i s ax
  obtain⟨rfl,_⟩:=U.dN.fS
  split at h
  ·rename_i l u ao hu
   by_cases af:l≤u∧u≤s.size
   ·rw[a6 af]at h
    simp at h
    subst h
    cases Wd with
    | some _=>exact aJ.elim
    | none =>
     refine⟨_,?_,.t _ _ (.aA _ rfl)⟩
     have ab:=Fu (P:=P) (isSlice:=false) (len:=s.size) (cap:=s.size) ad ag aJ ao hu af.1 af.2 (bP _) (fun m hm=>by simp at hm)
     simp only[Instr.sliceAt,Instr.slice,Sem.run_bind,run_underlying ax,Result.andThen,OY,fJ,et,pure,Sem.run,ab]
   ·simp[af]at h
  ·simp at h
 ·rename_i elem clip k xs ax
  split at h
  ·rename_i size l u J ao hu
   by_cases af:l≤u∧u≤xs.length∧k=size
   ·rw[a6 af]at h
    obtain⟨sr,jr,rfl⟩:=af
    obtain⟨a,cap,rfl,fF,gu⟩:=bf.FA U.dN
    split at h
    ·simp at h
     subst h
     have ab:=Fu (P:=P) (isSlice:=true) (len:=xs.length) (cap:=cap) ad ag aJ ao hu sr jr fF (fun m hm=>by simp at hm)
     refine⟨.slice (if cap=l then a else a.map (·.add (l*k))) (u-l) (cap-l),?_,.t _ _ (U.dN.cut sr jr (by omega) (bP _) _ ?_)⟩
     ·simp[Instr.sliceAt,Instr.slice,run_underlying ax,Result.andThen,ab,run_sizeOf J,pure,Sem.run]
     ·intro dx
      simp at dx
      rw[gu dx.1,dx.2]
    ·rename_i m
     split at h
     ·rename_i m' hm
      by_cases xO:m'=u∧hi.isSome=true
      ·rw[a6 xO]at h
       simp at h
       subst h
       obtain⟨rfl,Rt⟩:=xO
       have ab:=Fu (P:=P) (isSlice:=true) (len:=xs.length) (cap:=cap) ad ag aJ ao hu sr jr fF (fun gR iF=>by simp at iF;subst iF;exact⟨hm,Rt⟩)
       refine⟨.slice (if m'=l then a else a.map (·.add (l*k))) (m'-l) (m'-l),?_,.t _ _ (U.dN.cut sr jr (bP _) (by omega) _ (fun _=>rfl))⟩
       simp[Instr.sliceAt,Instr.slice,run_underlying ax,Result.andThen,ab,run_sizeOf J,pure,Sem.run]
      ·simp[xO]at h
     ·simp at h
   ·simp[af]at h
  ·simp at h
 ·rename_i elem ax
  obtain⟨rfl,_⟩:=U.dN.fS
  split at h
  ·rename_i size J ao hu hm
   by_cases af:gM.isSome=true∧hi.isSome=false
   ·simp[af]at h
   ·rw[a2 af]at h
    simp at h
    subst h
    have ab:=Fu (P:=P) (isSlice:=true) (len:=0) (cap:=0) ad ag aJ ao hu (bP _) (bP _) (bP _) (fun gR iF=>by
     subst iF
     refine⟨by simpa[hM]using hm,?_⟩
     cases hi<;>simp at af ⊢)
    refine⟨_,?_,U⟩
    cases gM<;>simp[Instr.sliceAt,Instr.slice,run_underlying ax,Result.andThen,ab,run_sizeOf J,pure,Sem.run]
  ·simp at h
 ·rename_i elem o e i len k clip ax
  split at h
  ·rename_i size l u J ao hu
   by_cases af:l≤u∧u≤len∧k=size
   ·rw[a6 af]at h
    obtain⟨sr,jr,rfl⟩:=af
    obtain⟨a,cap,rfl,fF,gu⟩:=Nh U
    split at h
    ·split at h
     rotate_left
     ·cases h
     rename_i xH
     simp at h
     subst h
     have ab:=Fu (P:=P) (isSlice:=true) (len:=len) (cap:=cap) ad ag aJ ao hu sr jr fF (fun m hm=>by simp at hm)
     refine⟨.slice (if cap=l then a else a.map (·.add (l*k))) (u-l) (cap-l),?_,U.adr sr jr (by omega) (bP _) _ ?_ ?_⟩
     ·simp[Instr.sliceAt,Instr.slice,run_underlying ax,Result.andThen,ab,run_sizeOf J,pure,Sem.run]
     ·intro dx
      simp at dx
      rw[gu dx.1,dx.2]
     ·intro dx
      refine⟨rfl,?_⟩
      cases clip with
      | false=>exact .inl rfl
      | true =>
       right
       rcases xH with xH|xH|xH
       ·cases xH
       ·subst xH;simp at dx
       ·rw[gu rfl];exact xH
    ·rename_i m
     split at h
     ·rename_i m' hm
      by_cases xO:m'=u∧hi.isSome=true
      ·rw[a6 xO]at h
       simp at h
       subst h
       obtain⟨rfl,Rt⟩:=xO
       have ab:=Fu (P:=P) (isSlice:=true) (len:=len) (cap:=cap) ad ag aJ ao hu sr jr fF (fun gR iF=>by simp at iF;subst iF;exact⟨hm,Rt⟩)
       refine⟨.slice (if m'=l then a else a.map (·.add (l*k))) (m'-l) (m'-l),?_,U.adr sr jr (bP _) (by omega) _ (fun _=>rfl) (fun af=>by cases af)⟩
       simp[Instr.sliceAt,Instr.slice,run_underlying ax,Result.andThen,ab,run_sizeOf J,pure,Sem.run]
      ·simp[xO]at h
     ·simp at h
   ·simp[af]at h
  ·simp at h
 ·simp at h
end Go.Abs
/- Literals of structs and arrays; comparisons. -/
namespace Go.Abs
open Go
variable{P:Program}{D:c8}{β:dt}{w:World}
theorem Ys(vs:List Value):∀(n off:Nat) (cells:Array Value),off+n+vs.length≤cells.size →
  ((vs.zipIdx n).foldl (fun cs (x:Value × Nat)=>cs.setIfInBounds (off+x.2) x.1) cells).size=cells.size ∧
  ∀ i:Nat,((vs.zipIdx n).foldl (fun cs (x:Value × Nat)=>cs.setIfInBounds (off+x.2) x.1) cells)[i]? = if off+n≤i∧i<off+n+vs.length then vs[i-(off+n)]? else cells[i]?:=by
 induction vs with
 | nil=>intro n off cells _;refine⟨rfl,fun i=>?_⟩;rw[a2 (by simp only[lF];omega)];rfl
 | cons v r au =>
  intro n off cells ao
  simp only[jc]at ao
  obtain⟨ad,ag⟩:=au (n+1) off (cells.setIfInBounds (off+n) v) (by simp;omega)
  simp only[List.zipIdx_cons,p8]
  refine⟨by rw[ad];simp,fun i=>?_⟩
  rw[ag i]
  by_cases hi:off+(n+1)≤i∧i<off+(n+1)+r.length
  ·rw[a6 hi,a6 (by simp only[jc];omega)]
   have:i-(off+n)=(i-(off+(n+1)))+1:=by omega
   rw[this];simp
  ·rw[a2 hi]
   by_cases xI:i=off+n
   ·subst xI
    rw[a6 (by simp only[jc];omega)]
    have:off+n<cells.size:=by omega
    simp[this]
   ·rw[a2 (by simp only[jc];omega)]
    simp[yZ,Ne.symm xI]
theorem aeM{cs vs:List ah}{off:Nat}(h:off+vs.length≤cs.length):(ku cs off vs).length=cs.length:=by
 simp[ku];omega
theorem VW{cs vs:List ah}{off:Nat}(h:off+vs.length≤cs.length)(i:Nat):(ku cs off vs)[i]? = if off≤i∧i<off+vs.length then vs[i-off]? else cs[i]?:=by
 unfold ku
 by_cases ad:i<off
 ·rw[a2 (by omega)]
  rw[fU,fv (by simp;omega)]
  rw[l4,a6 ad]
 ·have hlen:(cs.take off).length=off:=by simp;omega
  rw[fU,g5 (by omega),hlen]
  by_cases ag:i<off+vs.length
  ·rw[a6 (by omega),fv (by omega)]
  ·rw[a2 (by omega),g5 (by omega),nF]
   congr 1;omega
def rY(D:c8)(β:dt)(w:World)(bO:List (Nat × Value))(kL:List (Nat × ah)):Prop :=
 bO.length=kL.length∧∀(i:Nat) p q,bO[i]? = some p→kL[i]? = some q→p.1=q.1∧bf D β w p.2 q.2
theorem rY.cons{p:Nat × Value}{bO:List (Nat × Value)}{q:Nat × ah}{kL:List (Nat × ah)}(h:rY D β w (p::bO) (q::kL)):p.1=q.1∧bf D β w p.2 q.2∧rY D β w bO kL:=by
 have bo:=h.2 0 p q rfl rfl
 refine⟨bo.1,bo.2,by simpa using h.1,fun i a b ae ab=>h.2 (i+1) a b (by simpa using ae) (by simpa using ab)⟩
theorem Yn{place:Nat→Option (Nat × Nat)}(kL:List (Nat × ah)):∀(bO:List (Nat × Value)) (C:Array Value) (L L':List ah),rY D β w bO kL→C.size=L.length →
  (∀(i:Nat) v x,C[i]? = some v→L[i]? = some x→bf D β w v x)→fill place L kL=some L' →
  ∃ og,Instr.fill place C bO=some og∧og.size=L'.length∧∀(i:Nat) v x,og[i]? = some v→L'[i]? = some x→bf D β w v x:=by
 induction kL with
 | nil =>
  intro bO C L L' av ao al aI
  cases bO with
  | nil=>simp[fill]at aI;subst aI;exact⟨C,rfl,ao,al⟩
  | cons p r=>simp[rY]at av
 | cons q kL au =>
  intro bO C L L' av ao al aI
  cases bO with
  | nil=>simp[rY]at av
  | cons p bO =>
   obtain⟨ad,ag,aJ⟩:=av.cons
   obtain⟨i,v⟩:=p
   obtain⟨rn,x⟩:=q
   simp only at ad ag
   subst ad
   simp only[fill]at aI
   cases iG:place i with
   | none=>simp[iG]at aI
   | some os =>
    obtain⟨off,size⟩:=os
    simp only[iG]at aI
    by_cases af:x.cells.length=size∧0<size∧off+size≤L.length
    ·rw[a6 af]at aI
     obtain⟨tr,Bq,zw⟩:=af
     have lk:=ag.cells (PM (by omega))
     have dn:v.cells.size=size:=by rw[lk.1,tr]
     have vS:(v.cells.zipIdx.foldl (fun cs (x:Value × Nat)=>cs.setIfInBounds (off+x.2) x.1) C)=((v.cells.toList.zipIdx 0).foldl (fun cs (x:Value × Nat)=>cs.setIfInBounds (off+x.2) x.1) C):=by
      rw[← OZ,Array.toList_zipIdx]
     obtain⟨cg,c5⟩:=Ys v.cells.toList 0 off C (by simp[dn];omega)
     obtain⟨og,aT,aW,bw⟩:=au bO (v.cells.zipIdx.foldl (fun cs (x:Value × Nat)=>cs.setIfInBounds (off+x.2) x.1) C) (ku L off x.cells) L' aJ
      (by rw[vS,cg,aeM (by omega)];exact ao)
      (fun j u y hu ar=>by
       rw[vS,c5 j]at hu
       rw[VW (by omega)]at ar
       by_cases aU:off≤j∧j<off+size
       ·rw[a6 (by simp[dn];omega)]at hu
        rw[a6 (by omega)]at ar
        exact lk.2 _ u y (by simpa using hu) ar
       ·rw[a2 (by simp[dn];omega)]at hu
        rw[a2 (by omega)]at ar
        exact al j u y hu ar) aI
     refine⟨og,?_,aW,bw⟩
     simp only[Instr.fill,iG]
     rw[a2 (by simp[dn];omega)]
     exact aT
    ·simp[af]at aI
theorem avj{fE:List Field}{l:List (Nat × Nat)}(h:yo P fE=some l):(fE.mapM fun f=>do pure (f.offset,← Go.sizeOf f.type):Sem (List (Nat × Nat))).run P w=.ok l w:=by
 induction fE generalizing l with
 | nil=>simp[yo]at h;subst h;simp[pure,Sem.run]
 | cons f r au =>
  simp only[yo]at h
  cases J:eM P f.type with
  | none=>simp[J]at h
  | some n =>
   cases av:yo P r with
   | none=>simp[J,av]at h
   | some gg =>
    simp[J,av]at h
    subst h
    simp only[Dd,Sem.run_bind,run_sizeOf J,Result.andThen,Sem.run_pure,au av]
theorem agr{t:TypeId}{kL:List (Nat × ah)}{y:ah}{bO:Array (Nat × Value)}(h:AY P t kL=some y)(av:rY D β w bO.toList kL) :
  ∃ v,(Instr.build t bO).run P w=.ok v w∧bf D β w v y:=by
 unfold AY at h
 cases bl:zeroOf P t with
 | none=>simp[bl]at h
 | some z =>
  simp only[bl]at h
  obtain⟨ky,ck,rfl,lS⟩:=AF bl
  have aoU:bf D β w ky (.t (fb ky)):=.t _ _ (pc ck)
  have LR:=aoU.cells (by simp)
  cases ax:dB P t with
  | none=>simp[ax]at h
  | some d =>
   simp only[ax]at h
   split at h
   ·rename_i fields aF
    simp at aF
    subst aF
    cases iG:yo P fields.toList with
    | none=>simp[iG]at h
    | some yn =>
     simp only[iG]at h
     cases aI:fill (fun i=>yn[i]?) (ah.t (fb ky)).cells kL with
     | none=>simp[aI]at h
     | some cs =>
      simp[aI]at h
      subst h
      obtain⟨og,aT,aW,bw⟩:=Yn kL bO.toList ky.cells _ cs av LR.1 LR.2 aI
      refine⟨.agg og,?_,bf.kJ aW bw⟩
      simp only[Instr.build,Sem.run_bind,lS,Result.andThen,run_underlying ax,WW,Sem.run_map,avj iG]
      simp[aT]
   ·rename_i len elem aF
    simp at aF
    subst aF
    cases J:eM P elem with
    | none=>simp[J]at h
    | some size =>
     simp only[J]at h
     cases aI:fill (fun i=>some (i*size,size)) (ah.t (fb ky)).cells kL with
     | none=>simp[aI]at h
     | some cs =>
      simp[aI]at h
      subst h
      obtain⟨og,aT,aW,bw⟩:=Yn kL bO.toList ky.cells _ cs av LR.1 LR.2 aI
      refine⟨.agg og,?_,bf.kJ aW bw⟩
      simp only[Instr.build,Sem.run_bind,lS,Result.andThen,run_underlying ax,run_sizeOf J,aT]
      rfl
   ·simp at h
theorem Jo{t:TypeId}{cs:Array Value}{xs:List T}{off:Nat}{y:T}(h:tX P t (xs.drop off)=some y)(ao:cs.size=xs.length)
  (al:∀(i:Nat) v x,cs[i]? = some v→xs[i]? = some x→eO D w v x):∃ v,(part t cs off).run P w=.ok v w∧eO D w v y:=by
 have ai:=aeY h
 rw[F9]at ai
 obtain⟨v,ad,ag⟩:=VI (P:=P) (D:=D) (β:=fun _ _=>none) (w:=w) ai (by simpa using ao) (fun i v x az U=>by
  simp only[eE,mH]at U
  obtain⟨u,hu,rfl⟩:=U
  exact .t _ _ (al i v u az hu))
 exact⟨v,ad,ag.dN⟩
theorem aiL{e:TypeId}{n:Nat}(h:eM P e=some n):P.cellsOf e=n:=by
 obtain⟨i,hi,rfl⟩:=V2 h
 simp[Program.cellsOf,hi]
theorem Yd:∀(d:Nat) (t:TypeId) (x y:T) (b:Bool) (cm k9:Value),ot P d t x y=some b→eO D w cm x→eO D w k9 y→∀ hv,d≤hv→(Op.equalIn hv t cm k9).run P w=.ok b w:=by
 intro d
 induction d with
 | zero=>intro t x y b cm k9 h;simp[ot]at h
 | succ d au =>
  intro t x y b cm k9 h U ar hv aF
  obtain⟨hv,rfl⟩:∃ n,hv=n+1:=⟨hv-1,by omega⟩
  have vR:d≤hv:=by omega
  simp only[ot]at h
  split at h
  ·rename_i a bS ax
   obtain⟨rfl,_⟩:=U.fS
   obtain⟨rfl,_⟩:=ar.fS
   simp at h
   subst h
   simp[Op.equalIn,run_underlying ax,Result.andThen,pure,Sem.run]
  ·rename_i k a bg bS ax
   obtain⟨rfl,_⟩:=U.fS
   obtain⟨rfl,_⟩:=ar.fS
   by_cases an:k=bg
   ·simp[an]at h
    subst h
    simp[Op.equalIn,run_underlying ax,Result.andThen,pure,Sem.run,an]
   ·simp[an]at h
  ·rename_i a bS ax
   obtain⟨rfl,_⟩:=U.fS
   obtain⟨rfl,_⟩:=ar.fS
   simp at h
   subst h
   simp[Op.equalIn,run_underlying ax,Result.andThen,pure,Sem.run]
  ·rename_i fE xs ys ax
   by_cases aS:P.stoodInHeld t=true
   ·simp[aS]at h
   ·rw[a2 aS]at h
    have uU:P.stoodInHeld t=false:=by simpa using aS
    cases U with
    | agg GL _ Hu fV =>
     cases ar with
     | agg cj _ RF R6 =>
      have Ro:P.fieldsOf t=fE:=by simp only[dB]at ax;simp[Program.fieldsOf,ax]
      rw[run_equalIn_struct w hv t GL cj (by rw[Ro];exact ax) uU,Ro]
      generalize fE.toList=fD at h
      clear Ro ax
      induction fD generalizing b with
      | nil=>simp[eqFields]at h;subst h;simp[Op.eqFields,pure,Sem.run]
      | cons f r HY =>
       simp only[eqFields]at h
       by_cases aw:f.name = "_"
       ·simp[aw]at h
       ·rw[a2 aw]at h
        split at h
        ·rename_i ad1 avV ri RX
         split at h
         ·rename_i a db ae j1
          simp at h
          subst h
          obtain⟨v1,b9,a3⟩:=Jo (P:=P) ri Hu fV
          obtain⟨v2,b3,a7⟩:=Jo (P:=P) RX RF R6
          have he:=au _ _ _ _ _ _ ae a3 a7 hv vR
          simp only[Op.eqFields,ne_eq,aw,Pb,cQ,Sem.run_bind,b9,b3,Result.andThen,he]
          cases a with
          | false=>simp[pure,Sem.run]
          | true=>simpa using HY db j1
         ·simp at h
        ·simp at h
  ·rename_i len elem xs ys ax
   cases J:eM P elem with
   | none=>simp[J]at h
   | some size =>
    simp only[J]at h
    cases U with
    | agg GL _ Hu fV =>
     cases ar with
     | agg cj _ RF R6 =>
      obtain⟨i,hi,dn⟩:=V2 J
      rw[run_equalIn_array w hv GL cj ax hi,aiL J]
      generalize List.range len=is at h
      clear ax
      induction is generalizing b with
      | nil=>simp[KP]at h;subst h;simp[Op.eqItems,pure,Sem.run]
      | cons j r HY =>
       simp only[KP]at h
       split at h
       ·rename_i ad1 avV ri RX
        split at h
        ·rename_i a db ae j1
         simp at h
         subst h
         obtain⟨v1,b9,a3⟩:=Jo (P:=P) ri Hu fV
         obtain⟨v2,b3,a7⟩:=Jo (P:=P) RX RF R6
         have he:=au _ _ _ _ _ _ ae a3 a7 hv vR
         simp only[Op.eqItems,Sem.run_bind,b9,b3,Result.andThen,he]
         cases a with
         | false=>simp[pure,Sem.run]
         | true=>simpa using HY db j1
        ·simp at h
       ·simp at h
  ·simp at h
end Go.Abs
/- What new blocks and writes do to the invariant. -/
namespace Go.Abs
open Go
variable{P:Program}{Z:hG}{D a5 ny:c8}{β a4 oe:dt}{w w' m6:World}{S:Nat→Prop}
theorem heap_alloc_old{obj:Obj}{b:Nat}(h:b<w.heap.size):(w.alloc obj).heap[b]? = w.heap[b]?:=by
 show(w.heap.push obj)[b]? = w.heap[b]?
 rw[Array.getElem?_push,a2 (by omega)]
theorem heap_alloc_new(obj:Obj):(w.alloc obj).heap[w.heap.size]? = some obj:=by
 show(w.heap.push obj)[w.heap.size]? = some obj
 simp
theorem lU{b:Nat}{o:Obj}(h:w.heap[b]? = some o):b<w.heap.size:=(s6.1 h).1
theorem axz{obj:Obj}{b n:Nat}(h:jv w b=some n):jv (w.alloc obj) b=some n:=by
 unfold jv at *
 cases ab:w.heap[b]? with
 | none=>simp[ab]at h
 | some x=>rw[heap_alloc_old (lU ab),ab];simpa[ab]using h
theorem Yf(obj:Obj)(aF:∀ b,D b→b<w.heap.size):Ext D β w D β (w.alloc obj) :=
 ⟨fun _ h=>h,fun b h=>heap_alloc_old (aF b h),fun _ _ _ h=>h,fun _ _ h=>axz h,fun b ds h=>(heap_alloc_old (lU h)).trans h,fun b L h=>⟨L,(heap_alloc_old (lU h)).trans h⟩,by simp⟩
theorem er.alloc(ay:er Z D β w)(obj:Obj)(iC:∀ c ty bQ,obj=.cells c ty bQ→bQ=(0,0)):er Z D β (w.alloc obj) where
 jS:=by have:=ay.jS;simp;omega
 dy b ab:=(heap_alloc_old (w7 ab ay.jS)).trans (ay.dy b ab)
 os:=ay.os
 out:=ay.out
 hV b ab:=by have:=ay.hV b ab;simp;omega
 lM:=ay.lM
 blt o e b k ab:=by have:=ay.blt o e b k ab;simp;omega
 inj:=ay.inj
 eU b ds ab bG:=by
  by_cases h:b<w.heap.size
  ·rw[heap_alloc_old h]at ab;exact ay.eU b ds ab bG
  ·exact⟨fun aF=>h (ay.hV b aF),fun o e k an=>h (ay.blt o e b k an).2⟩
def qb(D:c8)(b:Nat):c8:=fun x=>D x∨x=b
def kR(β:dt)(o e b k:Nat):dt:=fun cC bs=>if cC=o∧bs=e then some (b,k)else β cC bs
theorem xd(β:dt)(o e b k:Nat):kR β o e b k o e=some (b,k):=by simp[kR]
theorem Xm{β:dt}{o e b k cC bs:Nat}(h:cC≠o):kR β o e b k cC bs=β cC bs:=by simp[kR,h]
theorem vC{β:dt}{o e b k cC bs:Nat}{y:Nat × Nat}(h:kR β o e b k cC bs=some y):(cC=o∧bs=e∧y=(b,k))∨(β cC bs=some y∧¬ (cC=o∧bs=e)):=by
 unfold kR at h
 split at h
 ·rename_i af;exact .inl ⟨af.1,af.2,(Option.some.inj h).symm⟩
 ·rename_i af;exact .inr ⟨h,af⟩
theorem er.qb(ay:er Z D β w){b:Nat}(ab:b<w.heap.size)(bG:Z.N≤b)(km:∀ ds,w.heap[b]? ≠ some (.deferred ds)):er Z (qb D b) β w :=
 { ay with eU:=fun x ds U aw=>⟨fun aF=>aF.elim (ay.eU x ds U aw).1 (fun e=>km ds (e ▸ U)),(ay.eU x ds U aw).2⟩,hV:=fun x U=>U.elim (ay.hV x) (fun e=>e ▸ ab),lM:=fun x U ao=>U.elim (fun h=>ay.lM x h ao) (fun e=>by omega) }
theorem er.kR(ay:er Z D β w){o e b k:Nat}(bo:Z.N≤b)(ad:b<w.heap.size)(hi:∀ cC bs bg,β cC bs=some (b,bg)→cC=o)(km:∀ ds,w.heap[b]? ≠ some (.deferred ds)):er Z D (kR β o e b k) w :=
 { ay with
  eU:=fun x ds U aw=>⟨(ay.eU x ds U aw).1,fun cC bs bg h=>by
   rcases vC h with⟨_,_,h⟩|⟨h,_⟩
   ·cases h;exact km ds U
   ·exact(ay.eU x ds U aw).2 _ _ _ h⟩
  blt:=fun cC bs bS bg h=>by
   rcases vC h with⟨_,_,h⟩|⟨h,_⟩
   ·cases h;exact⟨bo,ad⟩
   ·exact ay.blt _ _ _ _ h
  inj:=fun hB aT cN bB h7 aW aO h ai=>by
   rcases vC h with⟨a3,_,cP⟩|⟨cP,_⟩<;>rcases vC ai with⟨a7,_,dc⟩|⟨dc,_⟩
   ·rw[a3,a7]
   ·cases cP;rw[a3];exact(hi _ _ _ dc).symm
   ·cases dc;rw[a7];exact hi _ _ _ cP
   ·exact ay.inj _ _ _ _ _ _ _ cP dc }
theorem Yw(ay:er Z D β w)(obj:Obj):hd S D β w (qb D w.heap.size) β (w.alloc obj) where
 ext:={ Yf obj ay.hV with sub:=fun b h=>.inl h }
 bQ o e b k _ ab:=by
  have:=(ay.blt o e b k ab).2
  exact⟨heap_alloc_old this,fun h=>h.elim id (fun e=>by omega)⟩
 iQ _ _ _:=rfl
theorem Bi(ay:er Z D β w)(obj:Obj):hd S D β w D β (w.alloc obj) where
 ext:=Yf obj ay.hV
 bQ o e b k _ ab:=⟨heap_alloc_old (ay.blt o e b k ab).2,id⟩
 iQ _ _ _:=rfl
theorem hd.refl(D:c8)(β:dt)(w:World):hd S D β w D β w:=⟨.refl D β w,fun _ _ _ _ _ _=>⟨rfl,id⟩,fun _ _ _=>rfl⟩
theorem hd.trans(h:hd S D β w a5 a4 w')(ai:hd S a5 a4 w' ny oe m6):hd S D β w ny oe m6 where
 ext:=h.ext.trans ai.ext
 bQ o e b k aC ab:=by
  obtain⟨ad,ag⟩:=h.bQ o e b k aC ab
  obtain⟨aJ,bL⟩:=ai.bQ o e b k aC ((h.iQ o e aC).trans ab)
  exact⟨aJ.trans ad,fun x=>ag (bL x)⟩
 iQ o e aC:=(ai.iQ o e aC).trans (h.iQ o e aC)
theorem hd.mono{S':Nat→Prop}(h:hd S D β w a5 a4 w')(J:∀ o,S o→S' o):hd S' D β w a5 a4 w' :=
 ⟨h.ext,fun o e b k aC ab=>h.bQ o e b k (fun x=>aC (J o x)) ab,fun o e aC=>h.iQ o e (fun x=>aC (J o x))⟩
theorem DJ{o e b k:Nat}(aC:S o)(aw:β o e=none):hd S D β w D (kR β o e b k) w where
 ext:=⟨fun _ h=>h,fun _ _=>rfl,fun cC bs x h=>by
   unfold kR
   rw[a2 (by rintro⟨rfl,rfl⟩;rw[aw]at h;cases h)]
   exact h,fun _ _ h=>h,fun _ _ h=>h,fun _ L h=>⟨L,h⟩,bP _⟩
 bQ _ _ _ _ _ _:=⟨rfl,id⟩
 iQ cC bs gv:=by
  unfold kR
  rw[a2]
  rintro⟨rfl,rfl⟩;exact gv aC
theorem alg(ay:er Z D β w)(n:Nat):hd S D β w D β { w with drawn:=n }∧er Z D β { w with drawn:=n } :=
 ⟨⟨⟨fun _ h=>h,fun _ _=>rfl,fun _ _ _ h=>h,fun _ _ h=>h,fun _ _ h=>h,fun _ L h=>⟨L,h⟩,bP _⟩,fun _ _ _ _ _ _=>⟨rfl,id⟩,fun _ _ _=>rfl⟩,
  ⟨ay.jS,ay.dy,ay.os,ay.out,ay.hV,ay.lM,ay.blt,ay.inj,ay.eU⟩⟩
theorem K2(ay:er Z D β w){o e b k off:Nat}{vs:List Value}{c:Array Value}{ty:TypeId}(aC:S o)(ab:β o e=some (b,k))(cR:¬ D b)
  (af:w.heap[b]? = some (.cells c ty (0,0))) (ao:off+vs.length≤c.size):hd S D β w D β (wrote w b off vs)∧er Z D β (wrote w b off vs):=by
 obtain⟨aT,aW,bw,cB,c',bZ,hW,mL⟩:=JI vs w b off c ty (0,0) af ao
 refine⟨⟨⟨fun _ h=>h,fun x U=>cB x (fun h=>cR (h ▸ U)),fun _ _ _ h=>h,fun x n aw=>?_,fun x ds U=>?_,fun x L U=>⟨L,?_⟩,by rw[aT];exact bP _⟩,fun cC bs bS bg gv cS=>?_,fun _ _ _=>rfl⟩,?_⟩
 ·by_cases U:x=b
  ·subst U
   simp only[jv,af]at aw
   simp only[jv,bZ,hW]
   exact aw
  ·simp only[jv,cB x U];exact aw
 ·rw[cB x (fun h=>by subst h;rw[af]at U;cases U)];exact U
 ·rw[cB x (fun h=>by subst h;rw[af]at U;cases U)];exact U
 ·refine⟨cB bS (fun h=>?_),id⟩
  subst h
  exact gv (ay.inj _ _ _ _ _ _ _ cS ab ▸ aC)
 ·have bG:=(ay.blt o e b k ab).1
  exact⟨by rw[aT];exact ay.jS,fun x U=>(cB x (by omega)).trans (ay.dy x U),aW.trans ay.os,bw.trans ay.out,
   fun x U=>by rw[aT];exact ay.hV x U,ay.lM,fun cC bs bS bg h=>by rw[aT];exact ay.blt cC bs bS bg h,ay.inj,
   fun x ds U aw=>by
    by_cases h:x=b
    ·subst h;rw[bZ]at U;cases U
    ·rw[cB x h]at U;exact ay.eU x ds U aw⟩
theorem Qo(ay:er Z D β w){o e b k:Nat}{x y:Obj}(aC:S o)(ab:β o e=some (b,k))(cR:¬ D b)(U:w.heap[b]? = some x)
  (ee:∀ c ty bQ,x≠.cells c ty bQ) (eU:∀ ds,x≠.deferred ds) (aCU:∀ c ty bQ,y≠.cells c ty bQ) (aBh:∀ ds,y≠.deferred ds) (nl:∀ L,x=.loop L→∃ L',y=.loop L'):hd S D β w D β (w.putObj b y)∧er Z D β (w.putObj b y):=by
 have aB:=lU U
 have BH:∀ eX,eX≠b→(w.putObj b y).heap[eX]? = w.heap[eX]?:=fun eX h=>World.putObj_heap_other h
 have uT:(w.putObj b y).heap[b]? = some y:=World.putObj_heap_same aB
 have dn:(w.putObj b y).heap.size=w.heap.size:=by simp[World.putObj]
 refine⟨⟨⟨fun _ h=>h,fun eX dM=>BH eX (fun h=>cR (h ▸ dM)),fun _ _ _ h=>h,fun eX n aw=>?_,fun eX ds dM=>?_,fun eX L dM=>?_,by rw[dn];exact bP _⟩,fun cC bs bS bg gv cS=>?_,fun _ _ _=>rfl⟩,?_⟩
 ·by_cases h:eX=b
  ·subst h
   simp only[jv,U]at aw
   cases x with
   | cells c ty bQ=>exact absurd rfl (ee c ty bQ)
   | _=>simp at aw
  ·simp only[jv,BH eX h];exact aw
 ·rw[BH eX (fun h=>by subst h;rw[U]at dM;cases dM;exact eU ds rfl)];exact dM
 ·by_cases h:eX=b
  ·subst h
   rw[U]at dM
   cases dM
   obtain⟨L',Hc⟩:=nl L rfl
   exact⟨L',by rw[uT,Hc]⟩
  ·exact⟨L,(BH eX h).trans dM⟩
 ·refine⟨BH bS (fun h=>?_),id⟩
  subst h
  exact gv (ay.inj _ _ _ _ _ _ _ cS ab ▸ aC)
 ·have bG:=(ay.blt o e b k ab).1
  exact⟨by rw[dn];exact ay.jS,fun eX dM=>(BH eX (by omega)).trans (ay.dy eX dM),ay.os,ay.out,
   fun eX dM=>by rw[dn];exact ay.hV eX dM,ay.lM,fun cC bs bS bg h=>by rw[dn];exact ay.blt cC bs bS bg h,ay.inj,
   fun eX ds dM aw=>by
    by_cases h:eX=b
    ·subst h;rw[uT]at dM;cases dM;exact absurd rfl (aBh _)
    ·rw[BH eX h]at dM;exact ay.eU eX ds dM aw⟩
end Go.Abs
/- Variables and rows: new ones,stores. -/
namespace Go.Abs
open Go
variable{P:Program}{Z:hG}{D:c8}{β:dt}{w:World}{h ai:aj}
def lC[cf](Z:hG)(D:c8)(β:dt)(w:World)(ai:aj)(S:Nat→Prop)(v:ah)(r:Result Next):Prop :=
 ∃ ee w' a5 a4,r=.ok ee w'∧(match ee with|.value bU=>bf a5 a4 w' bU v|.skip=>v=.t (.aA undef)|_=>False)∧hd S D β w a5 a4 w'∧er Z a5 a4 w' ∧
  (∀(o:Nat) x,S o→ai[o]? = some x→e5 a5 a4 w' o x)∧(∀ o e y,a4 o e=some y→(∃ bs od,β o bs=some od)∨o<ai.length)
def ep(tch:List Nat)(h ai:aj):Nat→Prop:=fun o=>o∈tch∨(h.length≤o∧o<ai.length)
theorem lC.pure[cf]{S:Nat→Prop}{bU:Value}{v:ah}(ay:er Z D β w)(al:bf D β w bU v)(aC:∀(o:Nat) x,S o→h[o]? = some x→e5 D β w o x) :
  lC Z D β w h S v (.ok (.value bU) w) :=
 ⟨_,w,D,β,rfl,al,.refl D β w,ay,aC,fun o e y ar=>.inl ⟨e,y,ar⟩⟩
theorem CO{cs:List ah}(h:fX cs=true){j:Nat}{t:ah}(ax:cs[j]? = some t):storable t=true:=by
 induction cs generalizing j with
 | nil=>simp at ax
 | cons c r au =>
  simp[fX]at h
  cases j with
  | zero=>simp at ax;subst ax;exact h.1
  | succ j=>exact au h.2 (by simpa using ax)
theorem FD{c:Value}{t:ah}(J:storable t=true)(al:bf D β w c t):mv c=true:=by
 cases al with
 | t _ x U =>
  cases U<;>first|rfl|(simp[storable]at J)
  rename_i az
  exact J
 | agg=>simp[storable]at J
 | ch=>simp[storable]at J
 | dead=>simp[storable]at J
 | _=>rfl
def iP(D:c8)(β:dt)(w:World)(k:Nat)(c:Array Value)(elems:List ah):Prop :=
 elems.length*k≤c.size∧(∀(i:Nat) x,elems[i]? = some x→x.cells.length=k) ∧
 ∀(i:Nat) x (j:Nat) t,elems[i]? = some x→x.cells[j]? = some t→∃ v,c[i*k+j]? = some v∧mv v=true∧bf D β w v t
theorem iP.mono{a5:c8}{a4:dt}{w':World}{k:Nat}{c:Array Value}{elems:List ah}(U:Ext D β w a5 a4 w')(h:iP D β w k c elems):iP a5 a4 w' k c elems :=
 ⟨h.1,h.2.1,fun i x j t hi ax=>let⟨v,ad,ag,aJ⟩:=h.2.2 i x j t hi ax;⟨v,ad,ag,aJ.mono U⟩⟩
theorem iP.one{v:Value}{x:ah}(al:bf D β w v x)(J:fX x.cells=true)(U:x≠.dead):iP D β w x.cells.length v.cells [x]:=by
 have af:=al.cells U
 refine⟨by simp[af.1],fun i y ar=>?_,fun i y j t ar ax=>?_⟩
 ·cases i with
  | zero=>simp at ar;subst ar;rfl
  | succ i=>simp at ar
 ·cases i with
  | zero =>
   simp at ar
   subst ar
   have aU:j<v.cells.size:=by rw[af.1];exact(cD.1 ax).1
   have uL:v.cells[j]? = some v.cells[j]:=by simp[aU]
   have:=af.2 j _ t uL ax
   exact⟨_,by simp only[Nat.zero_mul,nD];exact uL,FD (CO J ax) this,this⟩
  | succ i=>simp at ar
theorem NH[cf]{k:Nat}{elems:List ah}{c:Array Value}{ty:TypeId}{n:Nat}(ay:er Z D β w)(aI:iP D β w k c elems)(aw:∀ e,β n e=none) :
  let w':=w.alloc (.cells c ty (0,0))
  let a4:=kR β n elems.length w.heap.size k
  hd (fun o=>o=n) D β w D a4 w'∧er Z D a4 w'∧e5 D a4 w' n (.row k elems 0):=by
 intro w' a4
 have f1:hd (fun o=>o=n) D β w D β w':=Bi ay _
 have f2:hd (fun o=>o=n) D β w' D a4 w':=DJ rfl (aw _)
 have cg:er Z D β w':=ay.alloc _ (fun _ _ _ h=>by cases h;rfl)
 have c5:er Z D a4 w':=cg.kR ay.jS (by simp[w']) (fun cC bs bg ab=>by have:=(ay.blt _ _ _ _ ab).2;omega) (fun ds U=>by rw[heap_alloc_new]at U;cases U)
 have Yi:=f1.trans f2
 refine⟨Yi,c5,aI.2.1,fun e b bg ab=>?_⟩
 rcases vC ab with⟨_,rfl,ar⟩|⟨ab,_⟩
 ·cases ar
  refine⟨fun cR=>by have:=ay.hV _ cR;omega,rfl,bP _,fun _=>⟨c,ty,heap_alloc_new _,aI.1,fun i x j t _ U ax=>?_⟩⟩
  obtain⟨v,ad,ag,aJ⟩:=aI.2.2 i x j t U ax
  exact⟨v,ad,ag,aJ.mono Yi.ext⟩
 ·rw[aw]at ab;cases ab
theorem Bc{n e7 b k:Nat}(ao:n<ai.length):∀ o e y,kR β n e7 b k o e=some y→(∃ bs od,β o bs=some od)∨o<ai.length:=by
 intro o e y ar
 rcases vC ar with⟨rfl,_,_⟩|⟨ar,_⟩
 ·exact .inr ao
 ·exact .inl ⟨e,y,ar⟩
theorem K7(h:aj)(x:a9):(h++[x])[h.length]? = some x:=by simp
theorem ahR(w:World)(ty:TypeId)(v:Value):(Instr.box ty v).run P w=.ok (.pointer (some ⟨w.heap.size,0,none⟩)) (w.alloc (.cells v.cells ty (0,0))):=rfl
theorem adv[cf]{ty:TypeId}{v:Value}{x:ah}(ay:er Z D β w)(al:bf D β w v x)(J:fX x.cells=true)(U:x≠.dead)(aw:∀ e,β h.length e=none) :
  lC Z D β w (h++[.row x.cells.length [x] 0]) (ep [] h (h++[.row x.cells.length [x] 0])) (.ref h.length 1 0 0)
   (.ok (.value (.pointer (some ⟨w.heap.size,0,none⟩))) (w.alloc (.cells v.cells ty (0,0)))):=by
 obtain⟨f,g,Cn⟩:=NH (ty:=ty) ay (iP.one al J U) aw
 refine⟨_,_,D,_,rfl,?_,f.mono (fun o aC=>by subst aC;exact .inr ⟨bP _,by simp⟩),g,fun o y ar he=>?_,Bc (by simp)⟩
 ·have:=bf.ref (D:=D) (w:=w.alloc (.cells v.cells ty (0,0))) h.length 1 0 0 w.heap.size x.cells.length (xd β h.length [x].length w.heap.size x.cells.length)
  simpa using this
 ·rcases ar with ar|⟨ad,ag⟩
  ·simp at ar
  ·have e:o=h.length:=by simp at ag;omega
   subst e
   rw[K7]at he
   cases he
   exact Cn
theorem ahQ[cf]{ty:TypeId}{v:Value}{x:T}(ay:er Z D β w)(al:eO D w v x)(J:fX (ah.t x).cells=true) :
  lC Z D β w h (ep [] h h) (.t (.ip x.cells)) (.ok (.value (.pointer (some ⟨w.heap.size,0,none⟩))) (w.alloc (.cells v.cells ty (0,0)))):=by
 have aI:=iP.one (β:=β) (.t _ _ al) J (by simp)
 have f:hd (ep [] h h) D β w (qb D w.heap.size) β (w.alloc (.cells v.cells ty (0,0))):=Yw ay _
 have af:=al.cells
 refine⟨_,_,qb D w.heap.size,β,rfl,.t _ _ ?_,f,(ay.alloc _ (fun _ _ _ h=>by cases h;rfl)).qb (by simp) ay.jS (fun ds U=>by rw[heap_alloc_new]at U;cases U),fun o y ar=>?_,fun o e y ar=>.inl ⟨e,y,ar⟩⟩
 ·refine .ip _ 0 _ (.inr rfl) (fun j=>(v.cells[j]?).getD default) (fun j aU=>?_) (fun j t ax=>?_)
  ·have tz:j<v.cells.size:=by rw[af.1];exact aU
   have uL:v.cells[j]? = some v.cells[j]:=by simp[tz]
   have ax:x.cells[j]? = some x.cells[j]:=by simp[aU]
   have ck:mv v.cells[j]=true:=FD (D:=D) (β:=β) (w:=w) (CO J (j:=j) (by rw[yG];simp[ax])) (.t _ _ (af.2 j _ _ uL ax))
   simp only[uL,na]
   refine⟨?_,ck⟩
   have e:=heap_alloc_new (w:=w) (.cells v.cells ty (0,0))
   simp only[World.cell?,e]
   simp
  ·have aU:j<x.cells.length:=(cD.1 ax).1
   have tz:j<v.cells.size:=by rw[af.1];exact aU
   have uL:v.cells[j]? = some v.cells[j]:=by simp[tz]
   simp only[uL,na]
   exact(af.2 j _ t uL ax).mono f.ext.sub f.ext.same
 ·rcases ar with ar|⟨ad,ag⟩
  ·simp at ar
  ·omega
theorem azd[cf]{t:TypeId}{a x:ah}{AB cm:Value}(ay:er Z D β w)(aS:AZ P t a x h=some ai)(ae:bf D β w AB a)(U:bf D β w cm x)
  (b4:∀(o:Nat) y,o∈cl a→h[o]? = some y→e5 D β w o y) :
  lC Z D β w ai (ep (cl a) h ai) (.t (.aA undef)) (((do Instr.storeAt t AB cm;pure .skip:Sem Next)).run P w)∧(∀ o:Nat,¬ ep (cl a) h ai o→ai[o]? = h[o]?)∧ai.length=h.length:=by
 unfold AZ at aS
 split at aS
 ·rename_i o e i off size J
  split at aS
  ·rename_i k elems aG aC
   by_cases af:e=elems.length∧x.cells.length=size∧aG≤e
   ·rw[a6 af]at aS
    obtain⟨he,Si,hm⟩:=af
    split at aS
    ·rename_i dy hold
     by_cases Bq:off+size≤k∧0<size∧fX x.cells=true
     ·rw[a6 Bq]at aS
      obtain⟨aCn,ZY,HF⟩:=Bq
      simp at aS
      subst aS
      have ck:=b4 o _ (by simp[cl]) aC
      have RS:o<h.length:=(cD.1 aC).1
      cases ae with
      | ref _ _ _ _ b bg ab =>
       obtain⟨cR,rfl,jl,ov⟩:=ck.2 e b bg ab
       obtain⟨c,ty,ad,ag,aJ⟩:=ov hm
       have xF:=U.cells (PM (by omega))
       have Lr:i<elems.length:=(cD.1 hold).1
       have xJ:(i+1)*bg≤elems.length*bg:=jB _ Lr
       have anq:(i+1)*bg=i*bg+bg:=oh i bg
       have HL:cm.cells.toList.length=size:=by simp[xF.1,Si]
       have hbound:i*bg+off+cm.cells.toList.length≤c.size:=by rw[HL];subst he;omega
       have BF:∀ v∈cm.cells.toList,mv v=true:=by
        intro v az
        obtain⟨j,aU,rfl⟩:=Gc az
        have tz:j<x.cells.length:=by rw[← xF.1];simpa using aU
        exact FD (CO HF (j:=j) (t:=x.cells[j]) (by simp[tz])) (xF.2 j _ x.cells[j] (by simp at aU;simp[aU]) (by simp[tz]))
       have dT:(do Instr.storeAt t (.pointer (some ⟨b,i*bg+off,none⟩)) cm;pure Next.skip:Sem Next).run P w=.ok .skip (wrote w b (i*bg+off) cm.cells.toList):=by
        have dn:¬ (cm.cells.size≠size):=by simpa using HL
        simp only[Instr.storeAt,storeVar,Instr.sureAddr,Sem.run_bind,Sem.run_pure,Result.andThen,run_sizeOf J]
        rw[a2 dn]
        have:=NL (P:=P) cm.cells.toList w b (i*bg+off) 0 c ty ad (by simpa using hbound) BF
        simp only[s0]at this
        simp[Result.andThen,this]
       obtain⟨f,g⟩:=K2 (S:=ep (cl (.ref o e i off)) h (h.set o (.row bg (elems.set i (pack dy.isAgg (ku dy.cells off x.cells))) e))) ay (off:=i*bg+off) (vs:=cm.cells.toList) (.inl (by simp[cl])) ab cR ad hbound
       obtain⟨aT,aW,bw,cB,c',bZ,hW,mL⟩:=JI cm.cells.toList w b (i*bg+off) c ty (0,0) ad hbound
       have anX:dy.cells.length=bg:=ck.1 i dy hold
       have aob:∀ Po:Bool,(pack Po (ku dy.cells off x.cells)).cells=ku dy.cells off x.cells∨(Po=false∧∃ q,ku dy.cells off x.cells=[q]):=by
        intro Po
        unfold pack
        split
        ·rename_i q aE;exact .inr ⟨rfl,q,aE⟩
        ·exact .inl (ado _)
       have Z8:(ku dy.cells off x.cells).length=bg:=by rw[aeM (by omega)];exact anX
       -- yI new aBK cells
       have mU:(pack dy.isAgg (ku dy.cells off x.cells)).cells=ku dy.cells off x.cells:=by
        rcases aob dy.isAgg with aE|⟨kG,q,aE⟩
        ·exact aE
        · -- one cell
         rw[kG,aE]
         have By:bg=1:=by rw[← Z8,aE];rfl
         have aCo:off=0∧size=1:=by omega
         have aox:ku dy.cells off x.cells=x.cells:=by
          apply y1
          intro j
          rw[VW (by omega)]
          by_cases aU:off≤j∧j<off+x.cells.length
          ·rw[a6 aU];congr 1;omega
          ·rw[a2 aU]
           have qf:x.cells[j]? = none:=by simp;omega
           have xv:dy.cells[j]? = none:=by simp;omega
           rw[qf,xv]
         have aok:x.cells=[q]:=by rw[← aox,aE]
         have RZ:storable q=true:=CO HF (j:=0) (by simp[aok])
         show(pack false [q]).cells=[q]
         simp only[pack]
         cases q with
         | t y=>cases y<;>first|rfl|(simp[storable]at RZ)
         | agg=>simp[storable]at RZ
         | dead=>simp[storable]at RZ
         | _=>rfl
       refine⟨⟨_,_,D,β,dT,rfl,f,g,fun cC y ar aak=>?_,fun cC bs od pS=>.inl ⟨bs,od,pS⟩⟩,fun cC gv=>?_,by simp⟩
       ·rcases ar with ar|⟨LQ,HO⟩
        ·simp[cl]at ar
         subst ar
         have:(h.set cC (.row bg (elems.set i (pack dy.isAgg (ku dy.cells off x.cells))) e))[cC]? = some (.row bg (elems.set i (pack dy.isAgg (ku dy.cells off x.cells))) e):=by simp[RS]
         rw[this]at aak
         cases aak
         refine⟨fun j y ar=>?_,fun bs bS aO cS=>?_⟩
         ·rw[oO]at ar
          split at ar
          ·rename_i gY
           subst gY
           simp[Lr]at ar
           subst ar
           rw[mU];exact Z8
          ·exact ck.1 j y ar
         ·obtain⟨a3,a7,cz,eJ⟩:=ck.2 bs bS aO cS
          refine⟨a3,a7,by simpa using cz,fun hle=>?_⟩
          have Ln:bs=e:=by omega
          subst Ln
          rw[ab]at cS
          cases cS
          refine⟨c',ty,bZ,by rw[hW];exact ag,fun j y m u aU ar hu=>?_⟩
          rw[oO]at ar
          split at ar
          ·rename_i gY
           subst gY
           simp[Lr]at ar
           subst ar
           rw[mU,VW (by omega)]at hu
           have g8:m<bg:=by
            by_cases iF:off≤m∧m<off+x.cells.length
            ·omega
            ·rw[a2 iF]at hu
             have:=(cD.1 hu).1
             omega
           rw[mL]
           by_cases iF:off≤m∧m<off+x.cells.length
           ·rw[a6 iF]at hu
            rw[a6 (by rw[HL];omega)]
            have Ry:i*bg+m-(i*bg+off)=m-off:=by omega
            rw[Ry]
            have aB:m-off<cm.cells.size:=by rw[xF.1];omega
            have bx:cm.cells[m-off]? = some cm.cells[m-off]:=by simp[aB]
            have zN:=xF.2 (m-off) _ u bx hu
            exact⟨cm.cells[m-off],by rw[← s8]at bx;exact bx,FD (CO HF hu) zN,zN.mono f.ext⟩
           ·rw[a2 iF]at hu
            rw[a2 (by rw[HL];omega)]
            obtain⟨v,cP,dc,fi⟩:=aJ i dy m u (by omega) hold hu
            exact⟨v,cP,dc,fi.mono f.ext⟩
          ·rename_i gY
           rw[mL]
           have g8:m<bg:=by
            have ad:=(cD.1 hu).1
            have ag:=ck.1 j y ar
            omega
           have eo:¬ (i*bg+off≤j*bg+m∧j*bg+m<i*bg+off+cm.cells.toList.length):=by
            rw[HL]
            rcases Nat.lt_or_gt_of_ne gY with aB|kX
            ·have:=jB bg (show i+1≤j from aB)
             omega
            ·have ad:=jB bg (show j+1≤i from kX)
             have ag:(j+1)*bg=j*bg+bg:=oh j bg
             omega
           rw[a2 eo]
           obtain⟨v,cP,dc,fi⟩:=aJ j y m u (by omega) ar hu
           exact⟨v,cP,dc,fi.mono f.ext⟩
        ·simp at HO;omega
       ·rw[oO,a2]
        rintro rfl
        exact gv (.inl (by simp[cl]))
     ·simp[Bq]at aS
    ·simp at aS
   ·simp[af]at aS
  ·simp at aS
 ·simp at aS
end Go.Abs
/- Slices that are made: literals,make,append,copy. -/
namespace Go.Abs
open Go
variable{P:Program}{Z:hG}{D:c8}{β:dt}{w:World}{h ai:aj}
theorem bf.ayi{v:Value}{clip:Bool}{k:Nat}(al:eO D w v (.aP clip k [])):∃ a cap,v=.slice a 0 cap∧0≤cap∧True:=by
 obtain⟨a,cap,e,_,_⟩:=bf.FA al
 exact⟨a,cap,e,uv _,trivial⟩
theorem aep[cf]{size m:Nat}{x:ah}{cm:Value}{xs:List ah}(he:gU h size x=some xs)(U:bf D β w cm x)(hm:m≤xs.length)
  (b4:∀(o:Nat) y,o∈cl x→h[o]? = some y→e5 D β w o y) :
  ∃ c,(Builtin.lenOf cm).run P w=.ok xs.length w∧(Builtin.firstCells size m cm).run P w=.ok c w∧iP D β w size c (xs.take m)∧c.size=m*size:=by
 have empty:∀(a:Option Addr) (cap:Nat),xs=[]→cm=.slice a 0 cap →
   ∃ c,(Builtin.lenOf cm).run P w=.ok xs.length w∧(Builtin.firstCells size m cm).run P w=.ok c w∧iP D β w size c (xs.take m)∧c.size=m*size:=by
  intro a cap aT aW
  subst aT;subst aW
  have ql:m=0:=by simpa using hm
  subst ql
  refine⟨#[],rfl,?_,⟨by simp,by simp,by simp⟩,by simp⟩
  cases a with
  | none=>rfl
  | some a=>simp[Builtin.firstCells,loadCells,loadCellsFrom,pure,Sem.run]
 unfold gU at he
 split at he
 ·rename_i clip k
  simp at he;subst he
  obtain⟨a,cap,rfl,_,_⟩:=bf.ayi U.dN
  exact empty a cap rfl rfl
 ·rename_i clip k y ys
  by_cases an:k=size
  ·subst an
   simp at he;subst he
   have ax:=U.dN
   cases ax with
   | aP b off len cap _ _ _ cR hlen fF gu zG c af al =>
    have RI:m≤len:=by rw[hlen];simpa using hm
    have g8:m*k≤len*k:=jB k RI
    have dT:=run_loadCells (P:=P) (w:=w) (b:=b) (off:=off) (c:=c) (m*k) (fun j aU=>(af j (by omega)).1)
    refine⟨((List.range (m*k)).map c).toArray,?_,dT,⟨?_,?_,?_⟩,?_⟩
    ·simp[Builtin.lenOf,pure,Sem.run,hlen]
    ·simp at hm
     simp[J4 hm]
    ·intro i x U
     rw[← gz,l4]at U
     split at U
     ·rw[eE,mH]at U
      obtain⟨u,hu,rfl⟩:=U
      rw[yG];simp;exact zG i u hu
     ·simp at U
    ·intro i x j t dM jN
     rw[← gz,l4]at dM
     split at dM
     ·rename_i ans
      rw[eE,mH]at dM
      obtain⟨u,hu,rfl⟩:=dM
      rw[yG,eE,mH]at jN
      obtain⟨iN,mo,rfl⟩:=jN
      have aU:j<k:=by rw[← zG i u hu];exact(cD.1 mo).1
      have aB:i*k+j<m*k:=by
       have ad:=jB k (show i+1≤m from ans)
       have ag:(i+1)*k=i*k+k:=oh i k
       omega
      exact⟨c (i*k+j),by simp[aB],(af _ (by omega)).2,.t _ _ (al i u j iN hu mo)⟩
     ·simp at dM
    ·simp
  ·simp[an]at he
 ·simp at he;subst he
  obtain⟨rfl,_⟩:=U.dN.fS
  exact empty _ _ rfl rfl
 ·rename_i o e i len k clip
  split at he
  ·rename_i aO elems aG aC
   by_cases af:k=size∧aG≤e∧e≤elems.length∧i+len≤e
   ·rw[a6 af]at he
    obtain⟨rfl,bN,jl,anr⟩:=af
    simp at he;subst he
    have hlen:((elems.drop i).take len).length=len:=by simp;omega
    rw[hlen]at hm
    rw[hlen]
    have ck:=b4 o _ (by simp[cl]) aC
    cases U with
    | k5 a =>
     have ql:m=0:=by omega
     subst ql
     refine⟨#[],rfl,?_,⟨by simp,by simp,by simp⟩,by simp⟩
     cases a with
     | none=>rfl
     | some a=>simp[Builtin.firstCells,loadCells,loadCellsFrom,pure,Sem.run]
    | ms _ _ _ _ _ _ b cap n ab hle fF gu aw dn hex =>
     obtain⟨cR,an,aB4,ov⟩:=ck.2 e b k ab
     subst an
     obtain⟨c,ty,ad,ag,aJ⟩:=ov bN
     have kH:(i+len)*k≤c.size:=kP (jB k anr) ag
     have hmul:(i+len)*k=i*k+len*k:=lE i len k
     have g8:m*k≤len*k:=jB k hm
     have dT:=run_loadCells (P:=P) (w:=w) (b:=b) (off:=i*k) (c:=fun j=>(c[i*k+j]?).getD default) (m*k) (fun j aU=>by
      have aB:i*k+j<c.size:=by omega
      simp[World.cell?,ad,aB])
     refine⟨_,rfl,dT,⟨?_,?_,?_⟩,?_⟩
     ·have:((List.take len (List.drop i elems)).take m).length=m:=by rw[r4,hlen];exact J4 hm
      rw[this];simp
     ·intro j x U
      rw[l4]at U
      split at U
      ·rw[l4]at U
       split at U
       ·rw[nF]at U;exact ck.1 _ x U
       ·simp at U
      ·simp at U
     ·intro j x q t U ax
      rw[l4]at U
      split at U
      ·rename_i anz
       rw[l4]at U
       split at U
       ·rename_i aU
        rw[nF]at U
        have g8:q<k:=by rw[← ck.1 _ x U];exact(cD.1 ax).1
        obtain⟨v,cP,dc,fi⟩:=aJ (i+j) x q t (by omega) U ax
        have aB:j*k+q<m*k:=by
         have cg:=jB k (show j+1≤m from anz)
         have c5:(j+1)*k=j*k+k:=oh j k
         omega
        have he:i*k+(j*k+q)=(i+j)*k+q:=by rw[lE];omega
        refine⟨v,?_,dc,fi⟩
        simp[aB,he,cP]
       ·simp at U
      ·simp at U
     ·simp
   ·simp[af]at he
  ·simp at he
 ·simp at he
theorem Ar[cf]{size:Nat}{x:ah}{cm:Value}{xs:List ah}(he:gU h size x=some xs)(U:bf D β w cm x)
  (b4:∀(o:Nat) y,o∈cl x→h[o]? = some y→e5 D β w o y) :
  ∃ c,(Builtin.lenOf cm).run P w=.ok xs.length w∧(Builtin.firstCells size xs.length cm).run P w=.ok c w∧iP D β w size c xs∧c.size=xs.length*size:=by
 have:=aep (P:=P) he U (bP _) b4
 rwa[s4]at this
theorem iP.append{k:Nat}{c d:Array Value}{xs ys:List ah}(ad:iP D β w k c xs)(af:c.size=xs.length*k)(ag:iP D β w k d ys):iP D β w k (c++d) (xs++ys):=by
 refine⟨by have:=ag.1;simp[lE,af];exact this,fun i x U=>?_,fun i x j t U ax=>?_⟩
 ·rw[vz]at U
  split at U
  ·exact ad.2.1 i x U
  ·exact ag.2.1 _ x U
 ·rw[vz]at U
  split at U
  ·rename_i hi
   obtain⟨v,cP,dc,fi⟩:=ad.2.2 i x j t U ax
   exact⟨v,by rw[OR,a6 (s6.1 cP).1];exact cP,dc,fi⟩
  ·rename_i hi
   obtain⟨v,cP,dc,fi⟩:=ag.2.2 _ x j t U ax
   refine⟨v,?_,dc,fi⟩
   have e:i*k=xs.length*k+(i-xs.length)*k:=by rw[← lE];congr 1;omega
   rw[OR,a2 (by rw[af];omega)]
   have aW:i*k+j-c.size=(i-xs.length)*k+j:=by rw[af];omega
   rw[aW];exact cP
theorem iP.more{k:Nat}{c d:Array Value}{xs:List ah}(ad:iP D β w k c xs):iP D β w k (c++d) xs:=by
 refine⟨by have:=ad.1;simp;omega,ad.2.1,fun i x j t U ax=>?_⟩
 obtain⟨v,cP,dc,fi⟩:=ad.2.2 i x j t U ax
 exact⟨v,by rw[OR,a6 (s6.1 cP).1];exact cP,dc,fi⟩
theorem iP.afG{z:Value}{k n m:Nat}(bl:iL z=true)(an:(ah.t (fb z)).cells.length=k)(J:fX (ah.t (fb z)).cells=true)(RM:n≤m)(c:Array Value)
  (q9:c.size=m*k) (af:∀ i,i<m*k→c[i]? = some (z.cells[i % k]!)) (o1:k≠0):iP D β w k c (List.replicate n (.t (fb z))):=by
 have al:bf D β w z (.t (fb z)):=.t _ _ (pc bl)
 have lk:=al.cells (by simp)
 refine⟨by simp[q9];exact jB k RM,fun i x U=>?_,fun i x j t U ax=>?_⟩
 ·simp[s7]at U
  obtain⟨_,rfl⟩:=U
  exact an
 ·simp[s7]at U
  obtain⟨hi,rfl⟩:=U
  have aU:j<k:=by rw[← an];exact(cD.1 ax).1
  have aB:i*k+j<m*k:=by
   have cg:=jB k (show i+1≤m by omega)
   have c5:(i+1)*k=i*k+k:=oh i k
   omega
  have uP:(i*k+j) % k=j:=by rw[s3,Nat.mul_add_mod];exact Da aU
  have ZF:j<z.cells.size:=by rw[lk.1,an];exact aU
  have bx:z.cells[j]? = some z.cells[j]:=by simp[ZF]
  have zN:=lk.2 j _ t bx ax
  refine⟨z.cells[j],?_,FD (CO J ax) zN,zN⟩
  rw[af _ aB,uP]
  simp[ZF]
theorem U3[cf]{k:Nat}{elems:List ah}{c:Array Value}{ty:TypeId}{w0:World}{cap:Nat}{clip:Bool}{tch:List Nat}(f0:hd (fun _=>False) D β w0 D β w)(ay:er Z D β w)
  (aI:iP D β w k c elems) (aw:∀ e,β h.length e=none)
  (fF:elems.length≤cap) (gu:clip=true→cap=elems.length) (dn:cap*k≤c.size) (mi:∀(o:Nat) x,o∈tch→h[o]? = some x→e5 D β w0 o x) :
  lC Z D β w0 (h++[.row k elems 0]) (ep tch h (h++[.row k elems 0])) (.ms h.length elems.length 0 elems.length k clip)
   (.ok (.value (.slice (some ⟨w.heap.size,0,none⟩) elems.length cap)) (w.alloc (.cells c ty (0,0)))):=by
 obtain⟨f,g,Cn⟩:=NH (ty:=ty) ay aI aw
 have iC:hd (fun q=>q=h.length) D β w0 D (kR β h.length elems.length w.heap.size k) (w.alloc (.cells c ty (0,0))) :=
  (f0.mono (fun _ U=>U.elim)).trans f
 refine⟨_,_,D,_,rfl,?_,iC.mono (fun o aC=>by subst aC;exact .inr ⟨bP _,by simp⟩),g,fun o y ar he=>?_,Bc (by simp)⟩
 ·have:=bf.ms (D:=D) (w:=w.alloc (.cells c ty (0,0))) h.length elems.length 0 elems.length k clip w.heap.size cap c.size (xd β h.length elems.length w.heap.size k) (by omega) fF gu
   (by simp only[jv,heap_alloc_new]) (by simpa using dn) (fun _=>by omega)
  simpa using this
 ·by_cases e:o=h.length
  ·subst e
   rw[K7]at he
   cases he
   exact Cn
  ·have aB:o<h.length:=by
    have:=(cD.1 he).1
    simp at this;omega
   rw[fv aB]at he
   rcases ar with ar|⟨ad,ag⟩
   ·exact(mi o y ar he).frame iC e
   ·omega
theorem xc(h:aj)(x:a9)(tch:List Nat)(o:Nat)(aC:¬ ep tch h (h++[x]) o):(h++[x])[o]? = h[o]?:=by
 rw[vz]
 split
 ·rfl
 ·rename_i ao
  have:¬ (h.length≤o∧o<(h++[x]).length):=fun aY=>aC (.inr aY)
  have nj:(h++[x]).length≤o:=by omega
  simp at nj
  have ad:([x]:aj)[o-h.length]? = none:=by simp;omega
  have ag:h[o]? = none:=by simp;omega
  rw[ad,ag]
theorem aeo{t u elem q1 ty:TypeId}{size bytes sLen sCap n:Nat}{base:Option Addr}{cm z:Value}{dy new:Array Value}(ax:dB P t=some (.slice elem))(hu:dB P u=some (.slice q1))
  (J:eM P elem=some size) (ab:uD P elem=some bytes) (nV:bytes≠0) (bl:∀ w,(zeroValue elem).run P w=.ok z w) (fF:sCap<sLen+n) (fr:(sLen+n)*bytes≤eQ)
  (hlen:∀ w,(Builtin.lenOf cm).run P w=.ok n w) (hold:(Builtin.firstCells size sLen (.slice base sLen sCap)).run P w.drew=.ok dy w.drew)
  (mU:(Builtin.firstCells size n cm).run P w.drew=.ok new w.drew) :
  ∃ oE,sLen+n≤oE∧(Builtin.append_ #[t,u] ty #[.slice base sLen sCap,cm]).run P w =
   .ok (.slice (some ⟨w.heap.size,0,none⟩) (sLen+n) oE) (w.drew.alloc (.cells (dy++new++Builtin.zeroCells z.cells (oE-(sLen+n))) elem (0,0))):=by
 obtain⟨i,hi,Lq⟩:=Xt ab
 refine⟨(sLen+n)+w.tape w.drawn (.appendCap (sLen+n) sCap elem) % (2 ^ 63-(sLen+n)),by omega,?_⟩
 have anV:¬ (sLen+n≤sCap):=by omega
 have tt:¬ (281474976710656<Builtin.nextslicecap (sLen+n) sCap*i.bytes):=by
  have:=growslice_fits fF (by rw[eQ]at fr;exact fr)
  rw[Lq];omega
 have amL:i.bytes≠0:=by rw[Lq];exact nV
 have Lg:∀(m:Nat) (w':World),(askRoom m).run P w'=.ok () w':=by
  intro m w'
  unfold askRoom
  split<;>rfl
 simp only[Builtin.append_,Sem.run_bind,run_underlying ax,run_underlying hu,run_sizeOf J,Result.andThen,List.getElem?_toArray,lG,pA,Sem.run_pure,hlen]
 simp[Result.andThen,anV,tt,amL,run_typeInfo hi,Lg,bl,Ft,hlen,hold,mU,Question.forced,Question.cut]
end Go.Abs
/- append and copy. -/
namespace Go.Abs
open Go
variable{P:Program}{Z:hG}{D:c8}{β:dt}{w:World}{h ai:aj}
theorem GS(D:c8)(β:dt)(w:World):Ext D β w D β w.drew :=
 ⟨fun _ h=>h,fun _ _=>rfl,fun _ _ _ h=>h,fun _ _ h=>h,fun _ _ h=>h,fun _ L h=>⟨L,h⟩,bP _⟩
theorem K1{S:Nat→Prop}(D:c8)(β:dt)(w:World):hd S D β w D β w.drew :=
 ⟨GS D β w,fun _ _ _ _ _ _=>⟨rfl,id⟩,fun _ _ _=>rfl⟩
theorem er.drew(ay:er Z D β w):er Z D β w.drew:=⟨ay.jS,ay.dy,ay.os,ay.out,ay.hV,ay.lM,ay.blt,ay.inj,ay.eU⟩
theorem afE(z:Array Value)(n:Nat):(Builtin.zeroCells z n).size=n*z.size:=by simp[Builtin.zeroCells]
theorem afF{elem:TypeId}{size:Nat}(bl:zeroCells P elem=some size):∃ z,(∀ w,(zeroValue elem).run P w=.ok z w)∧z.cells.size=size:=by
 unfold zeroCells at bl
 cases BQ:zeroOf P elem with
 | none=>simp[BQ]at bl
 | some x =>
  obtain⟨z,ck,rfl,lS⟩:=AF BQ
  simp[BQ]at bl
  refine⟨z,lS,?_⟩
  have:=(bf.cells (D:=fun _=>True) (β:=fun _ _=>none) (w:=default) (.t _ _ (pc ck)) (by simp)).1
  rw[this,bl]
theorem Ps[cf]{t u elem q1 ty:TypeId}{size bytes:Nat}{s x:ah}{vs cm:Value}{xs ys:List ah}(ay:er Z D β w)(ax:dB P t=some (.slice elem))(hu:dB P u=some (.slice q1))
  (J:eM P elem=some size) (ab:uD P elem=some bytes) (nV:bytes≠0) (bl:zeroCells P elem=some size) (Sm:gU h size s=some ys) (jO:gU h size x=some xs)
  (g9:bf D β w vs s) (iH:bf D β w cm x) (fF:∀ base cap,vs=.slice base ys.length cap→cap<ys.length+xs.length) (Rp:∃ base cap,vs=.slice base ys.length cap)
  (fr:(ys.length+xs.length)*bytes≤eQ) (aw:∀ e,β h.length e=none) (tch:List Nat) (b4:∀(o:Nat) y,o∈tch→h[o]? = some y→e5 D β w o y)
  (dI:∀ o∈cl s,o∈tch) (o6:∀ o∈cl x,o∈tch) :
  lC Z D β w (h++[.row size (ys++xs) 0]) (ep tch h (h++[.row size (ys++xs) 0])) (.ms h.length (ys.length+xs.length) 0 (ys.length+xs.length) size false)
   ((do pure (Next.value (← Builtin.append_ #[t,u] ty #[vs,cm])):Sem Next).run P w):=by
 obtain⟨base,cap,rfl⟩:=Rp
 obtain⟨z,lS,BR⟩:=afF bl
 have Hx:∀(o:Nat) y,o∈tch→h[o]? = some y→e5 D β w.drew o y:=fun o y aC ar=>(b4 o y aC ar).frame (K1 (S:=fun _=>False) D β w) (fun aI=>aI)
 obtain⟨c1,cx,b9,f1,s1⟩:=Ar (P:=P) (w:=w.drew) Sm (g9.mono (GS D β w)) (fun o y aC ar=>Hx o y (dI o aC) ar)
 obtain⟨c2,gQ,b3,f2,s2⟩:=Ar (P:=P) (w:=w.drew) jO (iH.mono (GS D β w)) (fun o y aC ar=>Hx o y (o6 o aC) ar)
 have hlen:∀ w',(Builtin.lenOf cm).run P w'=.ok xs.length w':=by
  intro w'
  cases cm<;>simp[Builtin.lenOf,stuck,Sem.run,pure]at gQ ⊢<;>exact gQ
 obtain⟨oE,BE,dT⟩:=aeo (w:=w) (ty:=ty) ax hu J ab nV lS (fF base cap rfl) fr hlen b9 b3
 have aI:=(f1.append s1 f2).more (d:=Builtin.zeroCells z.cells (oE-(ys.length+xs.length)))
 have ao:(ys++xs).length=ys.length+xs.length:=by simp
 have aF:=U3 (Z:=Z) (h:=h) (ty:=elem) (w0:=w) (w:=w.drew) (cap:=oE) (clip:=false) (tch:=tch) (K1 D β w) ay.drew aI aw (by rw[ao];exact BE) (by simp)
  (by
   simp only[Array.size_append,afE,s1,s2,BR]
   rw[← lE,← lE]
   exact jB _ (by omega)) b4
 rw[ao]at aF
 simp only[Sem.run_bind,dT,Result.andThen,Sem.run_pure]
 exact aF
theorem run_append_fits{t u elem q1 ty:TypeId}{size sLen sCap n:Nat}{base:Option Addr}{cm:Value}{new:Array Value}{w':World}(ax:dB P t=some (.slice elem))(hu:dB P u=some (.slice q1))
  (J:eM P elem=some size) (fF:sLen+n≤sCap) (hlen:(Builtin.lenOf cm).run P w=.ok n w) (mU:(Builtin.firstCells size n cm).run P w=.ok new w)
  (aS:∀ a,base=some a→(storeCells (a.add (sLen*size)) new.toList).run P w=.ok () w') (ab:base=none→w'=w) :
  (Builtin.append_ #[t,u] ty #[.slice base sLen sCap,cm]).run P w=.ok (.slice base (sLen+n) sCap) w':=by
 simp only[Builtin.append_,Sem.run_bind,run_underlying ax,run_underlying hu,run_sizeOf J,Result.andThen,List.getElem?_toArray,lG,pA,Sem.run_pure,hlen]
 cases base with
 | none=>simp[Result.andThen,hlen,mU,fF,ab rfl]
 | some a=>simp[Result.andThen,hlen,mU,fF,aS a rfl]
theorem Pt[cf]{t u elem q1 ty:TypeId}{size:Nat}{s x:ah}{vs cm:Value}(ay:er Z D β w)(ax:dB P t=some (.slice elem))(hu:dB P u=some (.slice q1))
  (J:eM P elem=some size) (jO:gU h size x=some []) (g9:bf D β w vs s) (iH:bf D β w cm x) (Rp:∃ base len cap,vs=.slice base len cap∧len≤cap)
  (tch:List Nat) (b4:∀(o:Nat) y,o∈tch→h[o]? = some y→e5 D β w o y) (o6:∀ o∈cl x,o∈tch) :
  lC Z D β w h (ep tch h h) s ((do pure (Next.value (← Builtin.append_ #[t,u] ty #[vs,cm])):Sem Next).run P w):=by
 obtain⟨base,len,cap,rfl,Hs⟩:=Rp
 obtain⟨c2,gQ,b3,f2,s2⟩:=Ar (P:=P) jO iH (fun o y aC ar=>b4 o y (o6 o aC) ar)
 simp at gQ b3 s2
 subst s2
 have dT:=run_append_fits (w:=w) (w':=w) (ty:=ty) (base:=base) (sLen:=len) (sCap:=cap) (n:=0) ax hu J (by omega) gQ b3 (fun a _=>by simp[storeCells,Sem.run,pure]) (fun _=>rfl)
 simp only[Sem.run_bind,dT,Result.andThen,Sem.run_pure]
 exact lC.pure ay g9 (fun o y aC ar=>by
  rcases aC with aC|aC
  ·exact b4 o y aC ar
  ·omega)
theorem aj0{o e i len k:Nat}{clip:Bool}{size:Nat}{ys:List ah}(ar:gU h size (.ms o e i len k clip)=some ys):∃ aO elems aG,h[o]? = some (.row aO elems aG)∧k=size∧aG≤e∧e≤elems.length∧i+len≤e∧ys=(elems.drop i).take len:=by
 simp only[gU]at ar
 split at ar
 ·rename_i aO elems aG aC
  by_cases af:k=size∧aG≤e∧e≤elems.length∧i+len≤e
  ·rw[a6 af]at ar
   simp at ar
   exact⟨aO,elems,aG,aC,af.1,af.2.1,af.2.2.1,af.2.2.2,ar.symm⟩
  ·simp[af]at ar
 ·simp at ar
theorem I5{v:Value}{o e i len k:Nat}{clip:Bool}(al:bf D β w v (.ms o e i len k clip)) :
  (len=0∧(clip=false→e≤i)∧∃ a,v=.slice a 0 0)∨∃ b cap n,β o e=some (b,k)∧i+len≤e∧len≤cap∧(clip=true→cap=len)∧jv w b=some n∧(i+cap)*k≤n∧(clip=false→e≤i+cap)∧v=.slice (some ⟨b,i*k,none⟩) len cap:=by
 cases al with
 | k5 a _ _ _ _ _ bo=>exact .inl ⟨rfl,bo,a,rfl⟩
 | ms _ _ _ _ _ _ b cap n ad ag aJ bL dC fQ hP=>exact .inr ⟨b,cap,n,ad,ag,aJ,bL,dC,fQ,hP,rfl⟩
theorem ag2[cf]{t u elem q1 ty:TypeId}{size bytes:Nat}{x:ah}{vs cm:Value}{xs:List ah}{o:Nat}{elems:List ah}{aG aO:Nat}(ay:er Z D β w)(ax:dB P t=some (.slice elem))(hu:dB P u=some (.slice q1))
  (J:eM P elem=some size) (ab:uD P elem=some bytes) (nV:bytes≠0) (bl:zeroCells P elem=some size) (lR:h[o]? = some (.row aO elems aG)) (bN:aG≤elems.length)
  (jO:gU h size x=some xs) (sw:0<xs.length) (g9:bf D β w vs (.ms o elems.length 0 elems.length size false)) (iH:bf D β w cm x)
  (fr:(elems.length+xs.length)*bytes≤eQ) (tch:List Nat) (b4:∀(o:Nat) y,o∈tch→h[o]? = some y→e5 D β w o y)
  (v5:o∈tch) (o6:∀ o∈cl x,o∈tch) (hR:aO=size) :
  lC Z D β w (h.set o (.row size (elems++xs) aG)) (ep tch h (h.set o (.row size (elems++xs) aG))) (.ms o (elems.length+xs.length) 0 (elems.length+xs.length) size false)
   ((do pure (Next.value (← Builtin.append_ #[t,u] ty #[vs,cm])):Sem Next).run P w):=by
 have aB:o<h.length:=(cD.1 lR).1
 have mm:ui D β w o aO elems aG:=b4 o _ v5 lR
 have RP:∀ e,elems.length<e→β o e=none:=by
  intro e he
  cases DW:β o e with
  | none=>rfl
  | some y =>
   have:=(mm.2 e y.1 y.2 DW).2.2.1
   omega
 have an:=hR
 subst an
 have HP:gU h aO (.ms o elems.length 0 elems.length aO false)=some elems:=by
  simp[gU,lR,bN]
 have other:∀(a5:c8) (a4:dt) (w':World),hd (fun q=>q=o) D β w a5 a4 w'→ui a5 a4 w' o aO (elems++xs) aG→∀(cC:Nat) y,ep tch h (h.set o (.row aO (elems++xs) aG)) cC→(h.set o (.row aO (elems++xs) aG))[cC]? = some y→e5 a5 a4 w' cC y:=by
  intro a5 a4 w' iC tD cC y gv ar
  by_cases e:cC=o
  ·subst e
   simp[aB]at ar
   subst ar
   exact tD
  ·rw[oO,a2 (Ne.symm e)]at ar
   rcases gv with gv|⟨ad,ag⟩
   ·exact(b4 cC y gv ar).frame iC e
   ·simp at ag;omega
 have sub:∀ q,q=o→ep tch h (h.set o (.row aO (elems++xs) aG)) q:=fun q aE=>by subst aE;exact .inl v5
 have grow:∀ base cap,vs=.slice base elems.length cap→cap<elems.length+xs.length →
   lC Z D β w (h.set o (.row aO (elems++xs) aG)) (ep tch h (h.set o (.row aO (elems++xs) aG))) (.ms o (elems.length+xs.length) 0 (elems.length+xs.length) aO false)
   ((do pure (Next.value (← Builtin.append_ #[t,u] ty #[vs,cm])):Sem Next).run P w):=by
  intro base cap aoF fF
  subst aoF
  obtain⟨z,lS,BR⟩:=afF bl
  have Hx:∀(o:Nat) y,o∈tch→h[o]? = some y→e5 D β w.drew o y:=fun o y aC ar=>(b4 o y aC ar).frame (K1 (S:=fun _=>False) D β w) (fun aI=>aI)
  obtain⟨c1,cx,b9,f1,s1⟩:=Ar (P:=P) (w:=w.drew) HP (g9.mono (GS D β w)) (fun cC y aC ar=>by simp[cl]at aC;subst aC;exact Hx _ y v5 ar)
  obtain⟨c2,gQ,b3,f2,s2⟩:=Ar (P:=P) (w:=w.drew) jO (iH.mono (GS D β w)) (fun o y aC ar=>Hx o y (o6 o aC) ar)
  have hlen:∀ w',(Builtin.lenOf cm).run P w'=.ok xs.length w':=by
   intro w'
   cases cm<;>simp[Builtin.lenOf,stuck,Sem.run,pure]at gQ ⊢<;>exact gQ
  obtain⟨oE,BE,dT⟩:=aeo (w:=w) (ty:=ty) ax hu J ab nV lS fF fr hlen b9 b3
  have aI:=(f1.append s1 f2).more (d:=Builtin.zeroCells z.cells (oE-(elems.length+xs.length)))
  simp only[Sem.run_bind,dT,Result.andThen,Sem.run_pure]
  -- yI new block
  have Bh:hd (fun q=>q=o) D β w D β (w.drew.alloc (.cells (c1++c2++Builtin.zeroCells z.cells (oE-(elems.length+xs.length))) elem (0,0))):=(K1 D β w).trans (Bi ay.drew _)
  have alE:er Z D β (w.drew.alloc (.cells (c1++c2++Builtin.zeroCells z.cells (oE-(elems.length+xs.length))) elem (0,0))):=ay.drew.alloc _ (fun _ _ _ h=>by cases h;rfl)
  have vH:=Bh.trans (DJ (D:=D) (w:=w.drew.alloc (.cells (c1++c2++Builtin.zeroCells z.cells (oE-(elems.length+xs.length))) elem (0,0))) (b:=w.heap.size) (k:=aO) (S:=fun q=>q=o) rfl (RP (elems.length+xs.length) (by omega)))
  have xr:=alE.kR (o:=o) (e:=elems.length+xs.length) (b:=w.heap.size) (k:=aO) ay.jS (by simp) (fun cC bs bg cS=>by have:=(ay.blt _ _ _ _ cS).2;omega) (fun ds U=>by have aE:=heap_alloc_new (w:=w.drew) (.cells (c1++c2++Builtin.zeroCells z.cells (oE-(elems.length+xs.length))) elem (0,0));rw[show w.drew.heap.size=w.heap.size from rfl,U]at aE;cases aE)
  have ZP:(w.drew.alloc (.cells (c1++c2++Builtin.zeroCells z.cells (oE-(elems.length+xs.length))) elem (0,0))).heap[w.heap.size]? = some (.cells (c1++c2++Builtin.zeroCells z.cells (oE-(elems.length+xs.length))) elem (0,0)):=heap_alloc_new (w:=w.drew) _
  refine⟨_,_,D,_,rfl,?_,vH.mono sub,xr,other _ _ _ vH ?_,Bc (by simp[aB])⟩
  ·have:=bf.ms (D:=D) (w:=w.drew.alloc (.cells (c1++c2++Builtin.zeroCells z.cells (oE-(elems.length+xs.length))) elem (0,0))) o (elems.length+xs.length) 0 (elems.length+xs.length) aO false w.heap.size oE (c1++c2++Builtin.zeroCells z.cells (oE-(elems.length+xs.length))).size
    (xd β o (elems.length+xs.length) w.heap.size aO) (by omega) BE (by simp) (by simp only[jv,ZP]) (by
     simp only[Array.size_append,afE,s1,s2,BR,nD]
     rw[← lE,← lE]
     exact jB _ (by omega)) (fun _=>by omega)
   simpa using this
  ·refine⟨aI.2.1,fun e b bg cS=>?_⟩
   rcases vC cS with⟨_,rfl,ar⟩|⟨cS,_⟩
   ·cases ar
    refine⟨fun cR=>by have:=ay.hV _ cR;omega,rfl,by simp,fun _=>⟨_,elem,ZP,by simpa using aI.1,fun i y j t _ ar jN=>?_⟩⟩
    obtain⟨v,cP,dc,fi⟩:=aI.2.2 i y j t ar jN
    exact⟨v,cP,dc,fi.mono (((Bi (S:=fun q=>q=o) ay.drew _).trans (DJ rfl (RP (elems.length+xs.length) (by omega)))).ext)⟩
   ·obtain⟨a3,a7,cz,eJ⟩:=mm.2 e b bg cS
    refine⟨a3,a7,by simp;omega,fun hm=>?_⟩
    obtain⟨c,rM,ad,ag,aJ⟩:=eJ hm
    refine⟨c,rM,?_,ag,fun i y j t hi ar jN=>?_⟩
    ·have Q6:=(ay.blt _ _ _ _ cS).2
     have e7:(w.drew.alloc (.cells (c1++c2++Builtin.zeroCells z.cells (oE-(elems.length+xs.length))) elem (0,0))).heap[b]? = w.heap[b]?:=heap_alloc_old (w:=w.drew) Q6
     rw[e7];exact ad
    ·rw[fv (by omega)]at ar
     obtain⟨v,cP,dc,fi⟩:=aJ i y j t hi ar jN
     exact⟨v,cP,dc,fi.mono vH.ext⟩
 rcases I5 g9 with⟨ao,bo,a,az⟩|⟨b,cap,n,mP,hle,Li,gu,aw,dn,hex,az⟩
 ·exact grow a 0 (by rw[ao];exact az) (by omega)
 ·subst az
  by_cases tt:elems.length+xs.length≤cap
  · -- there is room
   obtain⟨cR,_,_,ov⟩:=mm.2 _ _ _ mP
   obtain⟨c,rM,ad,ag,aJ⟩:=ov bN
   obtain⟨c2,gQ,b3,f2,s2⟩:=Ar (P:=P) jO iH (fun o y aC ar=>b4 o y (o6 o aC) ar)
   have ll:n=c.size:=by simpa[jv,ad]using aw.symm
   subst ll
   have BN:elems.length*aO+c2.toList.length≤c.size:=by
    have cg:(elems.length+xs.length)*aO≤cap*aO:=jB aO tt
    have c5:(elems.length+xs.length)*aO=elems.length*aO+xs.length*aO:=lE _ _ _
    have nR:(0+cap)*aO=cap*aO:=by rw[nD]
    have oY:c2.toList.length=xs.length*aO:=by simpa using s2
    omega
   have BF:∀ v∈c2.toList,mv v=true:=by
    intro v az
    obtain⟨j,aU,rfl⟩:=Gc az
    simp at aU
    rw[s2]at aU
    by_cases o1:aO=0
    ·subst o1;simp at aU
    ·have hdiv:j / aO<xs.length:=(F3 (by omega)).2 aU
     have uP:j % aO<aO:=mF _ (by omega)
     have rm:xs[j / aO]? = some xs[j / aO]:=by simp[hdiv]
     have dx:=f2.2.1 _ _ rm
     have tE:xs[j / aO].cells[j % aO]? = some xs[j / aO].cells[j % aO]:=by simp[dx,uP]
     obtain⟨v,cP,dc,_⟩:=f2.2.2 _ _ _ _ rm tE
     have qk:j / aO*aO+j % aO=j:=by rw[s3];exact F8 j aO
     rw[qk]at cP
     have:c2.toList[j]? = some v:=by simpa using cP
     have oy:c2.toList[j]=v:=by
      have:=(cD.1 this).2
      exact this
     rw[oy];exact dc
   have aS:∀ a,some (⟨b,0*aO,none⟩:Addr)=some a→(storeCells (a.add (elems.length*aO)) c2.toList).run P w=.ok () (wrote w b (elems.length*aO) c2.toList):=by
    intro a ae
    cases ae
    rw[xb]
    have:=NL (P:=P) c2.toList w b (elems.length*aO) 0 c rM ad (by simpa using BN) BF
    simpa using this
   have dT:=run_append_fits (w:=w) (ty:=ty) (base:=some ⟨b,0*aO,none⟩) (sLen:=elems.length) (sCap:=cap) ax hu J tt gQ b3 aS (by simp)
   simp only[Sem.run_bind,dT,Result.andThen,Sem.run_pure]
   obtain⟨tj,DP⟩:=K2 (S:=fun q=>q=o) ay (off:=elems.length*aO) (vs:=c2.toList) rfl mP cR ad BN
   obtain⟨aT,aW,bw,cB,c',bZ,hW,mL⟩:=JI c2.toList w b (elems.length*aO) c rM (0,0) ad BN
   have vH:=tj.trans (DJ (D:=D) (w:=wrote w b (elems.length*aO) c2.toList) (b:=b) (k:=aO) (S:=fun q=>q=o) rfl (RP (elems.length+xs.length) (by omega)))
   have xr:=DP.kR (o:=o) (e:=elems.length+xs.length) (b:=b) (k:=aO) (ay.blt _ _ _ _ mP).1 (by rw[aT];exact(ay.blt _ _ _ _ mP).2) (fun cC bs bg cS=>ay.inj _ _ _ _ _ _ _ cS mP) (fun ds U=>(DP.eU _ ds U (ay.blt _ _ _ _ mP).1).2 _ _ _ mP)
   have hh:jv (wrote w b (elems.length*aO) c2.toList) b=some c.size:=by simp only[jv,bZ,hW]
   refine⟨_,_,D,_,rfl,?_,vH.mono sub,xr,other _ _ _ vH ?_,Bc (by simp[aB])⟩
   ·exact bf.ms (D:=D) (w:=wrote w b (elems.length*aO) c2.toList) o (elems.length+xs.length) 0 (elems.length+xs.length) aO false b cap c.size
     (xd β o (elems.length+xs.length) b aO) (by omega) tt (by simp) hh dn (fun _=>by omega)
   · -- yI dy cells aBy as aDg aDk,yI new aCV behind aDf
    have lk:∀(i:Nat) y (j:Nat) oK,(elems++xs)[i]? = some y→y.cells[j]? = some oK→∀(Zg:∀(i:Nat) x (j:Nat) t,i<elems.length→elems[i]? = some x→x.cells[j]? = some t→∃ v,c[i*aO+j]? = some v∧mv v=true∧bf D β w v t),
      ∃ v,c'[i*aO+j]? = some v∧mv v=true∧bf D (kR β o (elems.length+xs.length) b aO) (wrote w b (elems.length*aO) c2.toList) v oK:=by
     intro i y j oK ar jN Zg
     rw[mL]
     rw[vz]at ar
     split at ar
     ·rename_i hi
      have ZD:j<aO:=by rw[← mm.1 i y ar];exact(cD.1 jN).1
      have cg:=jB aO (show i+1≤elems.length from hi)
      have c5:(i+1)*aO=i*aO+aO:=oh i aO
      rw[a2 (by omega)]
      obtain⟨v,cP,dc,fi⟩:=Zg i y j oK hi ar jN
      exact⟨v,cP,dc,fi.mono vH.ext⟩
     ·rename_i hi
      obtain⟨v,cP,dc,fi⟩:=f2.2.2 _ y j oK ar jN
      have cg:i*aO=elems.length*aO+(i-elems.length)*aO:=by rw[← lE];congr 1;omega
      have jM:=(s6.1 cP).1
      rw[a6 (by simp only[JW];omega)]
      have c5:i*aO+j-elems.length*aO=(i-elems.length)*aO+j:=by omega
      rw[c5]
      exact⟨v,by simpa using cP,dc,fi.mono vH.ext⟩
    refine⟨fun i y ar=>?_,fun e bS bg cS=>?_⟩
    ·rw[vz]at ar
     split at ar
     ·exact mm.1 i y ar
     ·exact f2.2.1 _ y ar
    ·rcases vC cS with⟨_,rfl,ar⟩|⟨cS,_⟩
     ·cases ar
      refine⟨cR,rfl,by simp,fun _=>⟨c',rM,bZ,?_,fun i y j oK _ ar jN=>lk i y j oK ar jN aJ⟩⟩
      rw[hW]
      have cg:(elems.length+xs.length)*aO=elems.length*aO+xs.length*aO:=lE _ _ _
      have oY:c2.toList.length=xs.length*aO:=by simpa using s2
      omega
     ·obtain⟨a3,a7,cz,eJ⟩:=mm.2 e bS bg cS
      refine⟨a3,a7,by simp;omega,fun hm=>?_⟩
      obtain⟨dh,az3,qf,xv,YU⟩:=eJ hm
      by_cases DW:bS=b
      ·subst DW
       rw[ad]at qf
       cases qf
       refine⟨c',rM,bZ,by rw[hW];exact xv,fun i y j oK hi ar jN=>?_⟩
       have aaj:elems[i]? = some y:=by rw[fv (by omega)]at ar;exact ar
       have ZD:j<aO:=by rw[← mm.1 i y aaj];exact(cD.1 jN).1
       have cg:=jB aO (show i+1≤elems.length by omega)
       have c5:(i+1)*aO=i*aO+aO:=oh i aO
       rw[mL,a2 (by omega)]
       obtain⟨v,cP,dc,fi⟩:=YU i y j oK hi aaj jN
       exact⟨v,cP,dc,fi.mono vH.ext⟩
      ·refine⟨dh,az3,by rw[cB bS DW];exact qf,xv,fun i y j oK hi ar jN=>?_⟩
       rw[fv (by omega)]at ar
       obtain⟨v,cP,dc,fi⟩:=YU i y j oK hi ar jN
       exact⟨v,cP,dc,fi.mono vH.ext⟩
  ·exact grow _ cap rfl (by omega)
theorem Vi{elems xs:List ah}{len:Nat}(so:len+xs.length≤elems.length)(i:Nat):(elems.take len++xs++elems.drop (len+xs.length))[i]? = if i<len then elems[i]? else if i<len+xs.length then xs[i-len]? else elems[i]?:=by
 have ad:(elems.take len).length=len:=by simp;omega
 by_cases hi:i<len
 ·rw[a6 hi,fU,fv (by omega),l4,a6 hi]
 ·rw[a2 hi]
  by_cases aU:i<len+xs.length
  ·rw[a6 aU,fv (by simp;omega),g5 (by omega),ad]
  ·rw[a2 aU,g5 (by simp;omega),nF]
   congr 1
   simp only[gT,ad]
   omega
theorem ag3[cf]{t u elem q1 ty:TypeId}{size len:Nat}{x:ah}{vs cm:Value}{xs:List ah}{o:Nat}{elems:List ah}{aG aO:Nat}(ay:er Z D β w)(ax:dB P t=some (.slice elem))(hu:dB P u=some (.slice q1))
  (J:eM P elem=some size) (lR:h[o]? = some (.row aO elems aG)) (bN:aG≤elems.length) (jO:gU h size x=some xs) (sw:0<xs.length) (so:len+xs.length≤elems.length)
  (g9:bf D β w vs (.ms o elems.length 0 len size false)) (iH:bf D β w cm x) (tch:List Nat) (b4:∀(o:Nat) y,o∈tch→h[o]? = some y→e5 D β w o y)
  (v5:o∈tch) (o6:∀ o∈cl x,o∈tch) (hR:aO=size) :
  lC Z D β w (h.set o (.row size (elems.take len++xs++elems.drop (len+xs.length)) elems.length)) (ep tch h (h.set o (.row size (elems.take len++xs++elems.drop (len+xs.length)) elems.length))) (.ms o elems.length 0 (len+xs.length) size false)
   ((do pure (Next.value (← Builtin.append_ #[t,u] ty #[vs,cm])):Sem Next).run P w):=by
 have aB:o<h.length:=(cD.1 lR).1
 have mm:ui D β w o aO elems aG:=b4 o _ v5 lR
 subst hR
 have QN:(elems.take len++xs++elems.drop (len+xs.length)).length=elems.length:=by simp;omega
 have other:∀(a5:c8) (a4:dt) (w':World),hd (fun q=>q=o) D β w a5 a4 w'→ui a5 a4 w' o aO (elems.take len++xs++elems.drop (len+xs.length)) elems.length→∀(cC:Nat) y,ep tch h (h.set o (.row aO (elems.take len++xs++elems.drop (len+xs.length)) elems.length)) cC→(h.set o (.row aO (elems.take len++xs++elems.drop (len+xs.length)) elems.length))[cC]? = some y→e5 a5 a4 w' cC y:=by
  intro a5 a4 w' iC tD cC y gv ar
  by_cases e:cC=o
  ·subst e
   simp only[l7 aB,Option.some.injEq]at ar
   subst ar
   exact tD
  ·rw[oO,a2 (Ne.symm e)]at ar
   rcases gv with gv|⟨ad,ag⟩
   ·exact(b4 cC y gv ar).frame iC e
   ·simp at ag;omega
 have sub:∀ q,q=o→ep tch h (h.set o (.row aO (elems.take len++xs++elems.drop (len+xs.length)) elems.length)) q:=fun q aE=>by subst aE;exact .inl v5
 rcases I5 g9 with⟨ao,bo,a,az⟩|⟨b,cap,n,mP,hle,Li,gu,aw,dn,hex,az⟩
 ·have:=bo rfl;omega
 subst az
 have aB5:=hex rfl
 have tt:len+xs.length≤cap:=by omega
 obtain⟨cR,_,_,ov⟩:=mm.2 _ _ _ mP
 obtain⟨c,rM,ad,ag,aJ⟩:=ov bN
 obtain⟨c2,gQ,b3,f2,s2⟩:=Ar (P:=P) jO iH (fun o y aC ar=>b4 o y (o6 o aC) ar)
 have ll:n=c.size:=by simpa[jv,ad]using aw.symm
 subst ll
 have oY:c2.toList.length=xs.length*aO:=by simpa using s2
 have BN:len*aO+c2.toList.length≤c.size:=by
  have cg:(len+xs.length)*aO≤cap*aO:=jB aO tt
  have c5:(len+xs.length)*aO=len*aO+xs.length*aO:=lE _ _ _
  have nR:(0+cap)*aO=cap*aO:=by rw[nD]
  omega
 have BF:∀ v∈c2.toList,mv v=true:=by
  intro v az
  obtain⟨j,aU,rfl⟩:=Gc az
  simp at aU
  rw[s2]at aU
  by_cases o1:aO=0
  ·subst o1;simp at aU
  ·have hdiv:j / aO<xs.length:=(F3 (by omega)).2 aU
   have uP:j % aO<aO:=mF _ (by omega)
   have rm:xs[j / aO]? = some xs[j / aO]:=by simp[hdiv]
   have dx:=f2.2.1 _ _ rm
   have tE:xs[j / aO].cells[j % aO]? = some xs[j / aO].cells[j % aO]:=by simp[dx,uP]
   obtain⟨v,cP,dc,_⟩:=f2.2.2 _ _ _ _ rm tE
   have qk:j / aO*aO+j % aO=j:=by rw[s3];exact F8 j aO
   rw[qk]at cP
   have:c2.toList[j]? = some v:=by simpa using cP
   have oy:c2.toList[j]=v:=by
    have:=(cD.1 this).2
    exact this
   rw[oy];exact dc
 have aS:∀ a,some (⟨b,0*aO,none⟩:Addr)=some a→(storeCells (a.add (len*aO)) c2.toList).run P w=.ok () (wrote w b (len*aO) c2.toList):=by
  intro a ae
  cases ae
  rw[xb]
  have:=NL (P:=P) c2.toList w b (len*aO) 0 c rM ad (by simpa using BN) BF
  simpa using this
 have dT:=run_append_fits (w:=w) (ty:=ty) (base:=some ⟨b,0*aO,none⟩) (sLen:=len) (sCap:=cap) ax hu J tt gQ b3 aS (by simp)
 simp only[Sem.run_bind,dT,Result.andThen,Sem.run_pure]
 obtain⟨tj,DP⟩:=K2 (S:=fun q=>q=o) ay (off:=len*aO) (vs:=c2.toList) rfl mP cR ad BN
 obtain⟨aT,aW,bw,cB,c',bZ,hW,mL⟩:=JI c2.toList w b (len*aO) c rM (0,0) ad BN
 have hh:jv (wrote w b (len*aO) c2.toList) b=some c.size:=by simp only[jv,bZ,hW]
 refine⟨_,_,D,_,rfl,?_,tj.mono sub,DP,other _ _ _ tj ?_,fun cC bs y ar=>.inl ⟨bs,y,ar⟩⟩
 ·exact bf.ms (D:=D) (w:=wrote w b (len*aO) c2.toList) o elems.length 0 (len+xs.length) aO false b cap c.size mP (by omega) tt (by simp) hh dn hex
 ·refine⟨fun i y ar=>?_,fun e bS bg cS=>?_⟩
  ·rw[Vi so]at ar
   split at ar
   ·exact mm.1 i y ar
   ·split at ar
    ·exact f2.2.1 _ y ar
    ·exact mm.1 i y ar
  ·obtain⟨a3,a7,cz,eJ⟩:=mm.2 e bS bg cS
   refine⟨a3,a7,by rw[QN];exact cz,fun hm=>?_⟩
   have Bs:e=elems.length:=Nat.le_antisymm cz hm
   subst Bs
   rw[mP]at cS
   cases cS
   refine⟨c',rM,bZ,by rw[hW];exact ag,fun i y j oK hi ar jN=>?_⟩
   rw[Vi so]at ar
   rw[mL]
   split at ar
   ·rename_i qj
    have ZD:j<aO:=by rw[← mm.1 i y ar];exact(cD.1 jN).1
    have cg:=jB aO (show i+1≤len from qj)
    have c5:(i+1)*aO=i*aO+aO:=oh i aO
    rw[a2 (by omega)]
    obtain⟨v,cP,dc,fi⟩:=aJ i y j oK hi ar jN
    exact⟨v,cP,dc,fi.mono tj.ext⟩
   ·rename_i qj
    split at ar
    ·obtain⟨v,cP,dc,fi⟩:=f2.2.2 _ y j oK ar jN
     have cg:i*aO=len*aO+(i-len)*aO:=by rw[← lE];congr 1;omega
     have jM:=(s6.1 cP).1
     rw[a6 (by simp only[JW];omega)]
     have c5:i*aO+j-len*aO=(i-len)*aO+j:=by omega
     rw[c5]
     exact⟨v,by simpa using cP,dc,fi.mono tj.ext⟩
    ·rename_i hf
     have cg:=jB aO (show len+xs.length≤i by omega)
     have c5:(len+xs.length)*aO=len*aO+xs.length*aO:=lE _ _ _
     rw[a2 (by omega)]
     obtain⟨v,cP,dc,fi⟩:=aJ i y j oK hi ar jN
     exact⟨v,cP,dc,fi.mono tj.ext⟩
end Go.Abs
/- append,copy,literals of slices,make: each as the evaluator has it. -/
namespace Go.Abs
open Go
variable{P:Program}{Z:hG}{D:c8}{β:dt}{w:World}{h ai:aj}
theorem agm[cf]{t u q1 ty:TypeId}{s x v:ah}{vs cm:Value}(ay:er Z D β w)(ae:AX P t s x h=some (v,ai))(hu:dB P u=some (.slice q1))(g9:bf D β w vs s)(iH:bf D β w cm x)
  (aw:h.length<ai.length→∀ e,β h.length e=none) (b4:∀(o:Nat) y,o∈cl s++cl x→h[o]? = some y→e5 D β w o y) :
  lC Z D β w ai (ep (cl s++cl x) h ai) v ((do pure (Next.value (← Builtin.append_ #[t,u] ty #[vs,cm])):Sem Next).run P w) ∧
  (∀ o:Nat,¬ ep (cl s++cl x) h ai o→ai[o]? = h[o]?)∧h.length≤ai.length:=by
 unfold AX at ae
 split at ae
 ·rename_i elem ax
  split at ae
  ·rename_i size bytes J ab
   split at ae
   ·rename_i xs jO
    by_cases af:size=0∨bytes=0∨zeroCells P elem≠some size
    ·simp[af]at ae
    ·rw[a2 af]at ae
     have nV:bytes≠0:=fun e=>af (.inr (.inl e))
     have bl:zeroCells P elem=some size:=C8 fun e=>af (.inr (.inr e))
     have o6:∀ o∈cl x,o∈cl s++cl x:=fun o aC=>y6 _ aC
     have dI:∀ o∈cl s,o∈cl s++cl x:=fun o aC=>AN _ aC
     split at ae
     · -- nil
      obtain⟨rfl,_⟩:=g9.dN.fS
      split at ae
      ·simp at ae
       obtain⟨rfl,rfl⟩:=ae
       exact⟨Pt ay ax hu J jO g9 iH ⟨_,_,_,rfl,bP _⟩ _ b4 o6,fun _ _=>rfl,bP _⟩
      ·rename_i y ys
       split at ae
       ·rename_i fr
        simp at ae
        obtain⟨rfl,rfl⟩:=ae
        have aF:=Ps (ys:=[]) (ty:=ty) (h:=h) ay ax hu J ab nV bl (by simp[gU]) jO g9 iH (fun base cap e=>by cases e;simp) ⟨_,_,rfl⟩ (by simpa using fr) (aw (by simp)) _ b4 dI o6
        refine⟨by simpa using aF,fun o aC=>xc h _ _ o aC,by simp⟩
       ·simp at ae
     · -- a slice aDl capacity is asg length
      rename_i k ys
      split at ae
      ·simp at ae
       obtain⟨rfl,rfl⟩:=ae
       obtain⟨a,cap,rfl,fF,_⟩:=bf.FA g9.dN
       exact⟨Pt ay ax hu J jO g9 iH ⟨_,_,_,rfl,fF⟩ _ b4 o6,fun _ _=>rfl,bP _⟩
      ·rename_i y jU
       split at ae
       ·rename_i fr
        simp at ae
        obtain⟨rfl,rfl⟩:=ae
        obtain⟨a,cap,rfl,fF,gu⟩:=bf.FA g9.dN
        have HP:gU h size (.t (.aP true k ys))=some (ys.map .t):=by
         cases ys with
         | nil=>simp[gU]
         | cons dJ aDz =>
          have:k=size:=by simpa using fr.2
          simp[gU,this]
        have aF:=Ps (ys:=ys.map .t) (ty:=ty) (h:=h) ay ax hu J ab nV bl HP jO g9 iH (fun base aiJ e=>by
         simp at e
         rw[← e.2,gu rfl];simp) ⟨a,cap,by simp⟩ (by simpa using fr.1) (aw (by simp)) _ b4 dI o6
        refine⟨by simpa using aF,fun o aC=>xc h _ _ o aC,by simp⟩
       ·simp at ae
     · -- a slice of agV object
      rename_i o e i len k clip
      split at ae
      ·simp at ae
       obtain⟨rfl,rfl⟩:=ae
       obtain⟨a,cap,rfl,fF,_⟩:=Nh g9
       exact⟨Pt ay ax hu J jO g9 iH ⟨_,_,_,rfl,fF⟩ _ b4 o6,fun _ _=>rfl,bP _⟩
      ·rename_i y jU
       split at ae
       ·rename_i aO elems aG aC
        split at ae
        ·rename_i zy
         obtain⟨fr,rfl,hR,hm,qj,jl⟩:=zy
         split at ae
         ·rename_i dx
          subst dx
          simp at ae
          obtain⟨rfl,rfl⟩:=ae
          obtain⟨a,cap,rfl,fF,gu⟩:=Nh g9
          have hlen:((elems.drop i).take len).length=len:=by simp;omega
          have HP:gU h k (.ms o e i len k true)=some ((elems.drop i).take len):=by
           simp[gU,aC,hm,jl,qj]
          have aF:=Ps (ys:=(elems.drop i).take len) (ty:=ty) (h:=h) ay ax hu J ab nV bl HP jO g9 iH (fun base aiJ bs=>by
           simp at bs
           rw[← bs.2.2,gu rfl,hlen];simp) ⟨a,cap,by rw[hlen]⟩ (by rw[hlen];simpa using fr) (aw (by simp)) _ b4 dI o6
          rw[hlen]at aF
          refine⟨by simpa using aF,fun o aC=>xc h _ _ o aC,by simp⟩
         ·rename_i dx
          have Rb:clip=false:=by simpa using dx
          subst Rb
          split at ae
          ·rename_i mR
           obtain⟨rfl,rfl,Bs⟩:=mR
           simp at ae
           obtain⟨rfl,rfl⟩:=ae
           subst Bs
           have aF:=ag2 (ty:=ty) ay ax hu J ab nV bl aC hm jO (by simp) g9 iH (by simpa using fr) _ b4 (dI o (by simp[cl])) o6 hR
           refine⟨by simpa using aF,fun cC gv=>?_,by simp⟩
           rw[oO,a2]
           rintro rfl
           exact gv (.inl (dI _ (by simp[cl])))
          ·split at ae
           ·rename_i mR
            obtain⟨rfl,so,Bs⟩:=mR
            simp only[Option.some.injEq,Prod.mk.injEq]at ae
            obtain⟨rfl,rfl⟩:=ae
            subst Bs
            have aF:=ag3 (ty:=ty) (xs:=y::jU) ay ax hu J aC hm jO (by simp) so g9 iH _ b4 (dI o (by simp[cl])) o6 hR
            refine⟨aF,fun cC gv=>?_,by simp⟩
            rw[oO,a2]
            rintro rfl
            exact gv (.inl (dI _ (by simp[cl])))
           ·simp at ae
        ·simp at ae
       ·simp at ae
     ·simp at ae
   ·simp at ae
  ·simp at ae
 ·simp at ae
theorem agt[cf]{t ty:TypeId}{at_:Array TypeId}{d x v:ah}{Of cm:Value}(ay:er Z D β w)(ae:Gm P t d x h=some (v,ai))(iU:at_[0]? = some t)(Sg:bf D β w Of d)(iH:bf D β w cm x)
  (b4:∀(o:Nat) y,o∈cl d++cl x→h[o]? = some y→e5 D β w o y) :
  lC Z D β w ai (ep (cl d++cl x) h ai) v ((do pure (Next.value (← Builtin.copy_ at_ ty #[Of,cm])):Sem Next).run P w) ∧
  (∀ o:Nat,¬ ep (cl d++cl x) h ai o→ai[o]? = h[o]?)∧h.length≤ai.length:=by
 unfold Gm at ae
 split at ae
 ·rename_i elem ax
  split at ae
  ·rename_i size J
   split at ae
   ·rename_i xs jO
    by_cases bl:size=0
    ·simp[bl]at ae
    ·rw[a2 bl]at ae
     obtain⟨c2,gQ,b3,f2,s2⟩:=Ar (P:=P) jO iH (fun o y aC ar=>b4 o y (y6 _ aC) ar)
     have nothing:∀ a cap,Of=.slice a 0 cap→v=.t (.aA (.int .i64 0))→ai=h →
       lC Z D β w ai (ep (cl d++cl x) h ai) v ((do pure (Next.value (← Builtin.copy_ at_ ty #[Of,cm])):Sem Next).run P w) ∧
       (∀ o:Nat,¬ ep (cl d++cl x) h ai o→ai[o]? = h[o]?)∧h.length≤ai.length:=by
      intro a cap aT aW bw
      subst aT;subst aW;subst bw
      have aI:(Builtin.firstCells size 0 cm).run P w=.ok #[] w:=by
       cases cm with
       | slice cb gg c'=>cases cb<;>simp[Builtin.firstCells,loadCells,loadCellsFrom,pure,Sem.run]
       | string s=>simp[Builtin.firstCells,pure,Sem.run]
       | _=>simp[Builtin.lenOf,stuck,Sem.run]at gQ
      have dT:(Builtin.copy_ at_ ty #[.slice a 0 cap,cm]).run P w=.ok (.int .i64 0) w:=by
       cases a with
       | none=>simp[Builtin.copy_,iU,run_underlying ax,Result.andThen,gQ,run_sizeOf J,aI,goInt]
       | some a=>simp[Builtin.copy_,iU,run_underlying ax,Result.andThen,gQ,run_sizeOf J,aI,goInt,storeCells]
      have uS:(do pure (Next.value (← Builtin.copy_ at_ ty #[.slice a 0 cap,cm])):Sem Next).run P w=.ok (.value (.int .i64 0)) w:=by
       simp only[Sem.run_bind,dT,Result.andThen,Sem.run_pure]
      rw[uS]
      exact⟨lC.pure ay (.t _ _ (.aA _ rfl)) (fun o y aC ar=>by
       rcases aC with aC|aC
       ·exact b4 o y aC ar
       ·omega),fun _ _=>rfl,bP _⟩
     split at ae
     ·rename_i o e i len k clip
      split at ae
      ·rename_i aO elems aG aC
       split at ae
       ·rename_i zy
        obtain⟨he,qj,rfl,hR,hm⟩:=zy
        subst hR
        simp at ae
        obtain⟨rfl,rfl⟩:=ae
        have RS:o<h.length:=(cD.1 aC).1
        have v5:o∈cl (.ms o e i len aO clip)++cl x:=AN _ (by simp[cl])
        have mm:ui D β w o aO elems aG:=b4 o _ v5 aC
        have anO:min xs.length len≤xs.length:=Nat.min_le_left _ _
        have aCk:min xs.length len≤len:=Nat.min_le_right _ _
        obtain⟨c2,gQ,b3,f2,s2⟩:=aep (P:=P) jO iH anO (fun o y aC ar=>b4 o y (y6 _ aC) ar)
        have tB:(xs.take (min xs.length len)).length=min xs.length len:=by simp
        have amb:(elems.take i++(xs.take (min xs.length len)++elems.drop (i+min xs.length len))).length=elems.length:=by simp;omega
        have YW:∀ j:Nat,(elems.take i++(xs.take (min xs.length len)++elems.drop (i+min xs.length len)))[j]? = if i≤j∧j<i+min xs.length len then(xs.take (min xs.length len))[j-i]? else elems[j]?:=by
         intro j
         by_cases aU:j<i
         ·rw[a2 (by omega),fv (by simp;omega),l4,a6 aU]
         ·have fA:(elems.take i).length=i:=by simp;omega
          rw[g5 (by omega),fA]
          by_cases rf:j<i+min xs.length len
          ·rw[a6 (by omega),fv (by omega)]
          ·rw[a2 (by omega),g5 (by omega),tB,nF]
           congr 1;omega
        have other:∀(w':World),hd (fun q=>q=o) D β w D β w'→ui D β w' o aO (elems.take i++(xs.take (min xs.length len)++elems.drop (i+min xs.length len))) e →
          ∀(cC:Nat) y,ep (cl (.ms o e i len aO clip)++cl x) h (h.set o (.row aO (elems.take i++(xs.take (min xs.length len)++elems.drop (i+min xs.length len))) e)) cC →
           (h.set o (.row aO (elems.take i++(xs.take (min xs.length len)++elems.drop (i+min xs.length len))) e))[cC]? = some y→e5 D β w' cC y:=by
         intro w' iC tD cC y gv ar
         by_cases e7:cC=o
         ·subst e7
          simp[RS]at ar
          subst ar
          exact tD
         ·rw[oO,a2 (Ne.symm e7)]at ar
          rcases gv with gv|⟨ad,ag⟩
          ·exact(b4 cC y gv ar).frame iC e7
          ·simp at ag;omega
        have ZK:∀ cC:Nat,¬ ep (cl (.ms o e i len aO clip)++cl x) h (h.set o (.row aO (elems.take i++(xs.take (min xs.length len)++elems.drop (i+min xs.length len))) e)) cC →
          (h.set o (.row aO (elems.take i++(xs.take (min xs.length len)++elems.drop (i+min xs.length len))) e))[cC]? = h[cC]?:=by
         intro cC gv
         rw[oO,a2]
         rintro rfl
         exact gv (.inl v5)
        have Z6:∀(j:Nat) y,(elems.take i++(xs.take (min xs.length len)++elems.drop (i+min xs.length len)))[j]? = some y→y.cells.length=aO:=by
         intro j y ar
         rw[YW j]at ar
         split at ar
         ·exact f2.2.1 _ y ar
         ·exact mm.1 j y ar
        rcases I5 Sg with⟨ao,_,a,az⟩|⟨b,cap,n,mP,hle,Li,gu,aw,dn,hex,az⟩
        · -- nothing to copy to
         subst ao
         subst az
         have Zq:(Builtin.firstCells aO 0 cm).run P w=.ok c2 w:=by simpa using b3
         have amS:c2 = #[]:=by
          have:c2.size=0:=by simpa using s2
          exact Array.eq_empty_of_size_eq_zero this
         subst amS
         have dT:(do pure (Next.value (← Builtin.copy_ at_ ty #[.slice a 0 0,cm])):Sem Next).run P w=.ok (.value (.int .i64 0)) w:=by
          cases a with
          | none=>simp[Builtin.copy_,iU,run_underlying ax,Result.andThen,gQ,run_sizeOf J,Zq,goInt]
          | some a=>simp[Builtin.copy_,iU,run_underlying ax,Result.andThen,gQ,run_sizeOf J,Zq,goInt,storeCells]
         rw[dT]
         have ama:elems.take i++(xs.take (min xs.length 0)++elems.drop (i+min xs.length 0))=elems:=by simp
         refine⟨⟨_,w,D,β,rfl,.t _ _ (by simpa using eO.aA _ rfl),.refl D β w,ay,other w (.refl D β w) ?_,fun o e y ar=>.inl ⟨e,y,ar⟩⟩,ZK,by simp⟩
         rw[ama]
         exact⟨mm.1,fun bs b bg cS=>let⟨a3,a7,cz,eJ⟩:=mm.2 bs b bg cS;⟨a3,a7,cz,fun hle=>eJ (by omega)⟩⟩
        ·subst az
         obtain⟨cR,_,_,ov⟩:=mm.2 _ _ _ mP
         obtain⟨c,rM,ad,ag,aJ⟩:=ov hm
         have oY:c2.toList.length=min xs.length len*aO:=by simpa using s2
         have kH:i*aO+c2.toList.length≤c.size:=by
          have cg:(i+min xs.length len)*aO≤e*aO:=jB aO (by omega)
          have c5:(i+min xs.length len)*aO=i*aO+min xs.length len*aO:=lE _ _ _
          omega
         have BF:∀ v∈c2.toList,mv v=true:=by
          intro v az
          obtain⟨j,aU,rfl⟩:=Gc az
          rw[oY]at aU
          have hdiv:j / aO<min xs.length len:=(F3 (by omega)).2 aU
          have uP:j % aO<aO:=mF _ (by omega)
          have rm:(xs.take (min xs.length len))[j / aO]? = some (xs.take (min xs.length len))[j / aO]:=by rw[fC (by rw[tB];exact hdiv)]
          have dx:=f2.2.1 _ _ rm
          obtain⟨v,cP,dc,_⟩:=f2.2.2 _ _ (j % aO) _ rm (fC (by rw[dx];exact uP))
          have qk:j / aO*aO+j % aO=j:=by rw[s3];exact F8 j aO
          rw[qk]at cP
          have this:c2.toList[j]? = some v:=by simpa using cP
          have oy:c2.toList[j]=v:=(cD.1 this).2
          rw[oy];exact dc
         have aS:=NL (P:=P) c2.toList w b (i*aO) 0 c rM ad (by simpa using kH) BF
         simp only[s0]at aS
         have anP:Nat.min xs.length len=min xs.length len:=rfl
         have dT:(do pure (Next.value (← Builtin.copy_ at_ ty #[.slice (some ⟨b,i*aO,none⟩) len cap,cm])):Sem Next).run P w=.ok (.value (.int .i64 (min xs.length len:Nat))) (wrote w b (i*aO) c2.toList):=by
          simp[Builtin.copy_,iU,run_underlying ax,Result.andThen,gQ,run_sizeOf J,b3,goInt,aS,anP]
         rw[dT]
         obtain⟨tj,DP⟩:=K2 (S:=fun q=>q=o) ay (off:=i*aO) (vs:=c2.toList) rfl mP cR ad kH
         obtain⟨aT,aW,bw,cB,c',bZ,hW,mL⟩:=JI c2.toList w b (i*aO) c rM (0,0) ad kH
         refine⟨⟨_,_,D,β,rfl,.t _ _ (.aA _ rfl),tj.mono (fun q aE=>by subst aE;exact .inl v5),DP,other _ tj ⟨Z6,fun bs bS bg cS=>?_⟩,fun o e y ar=>.inl ⟨e,y,ar⟩⟩,ZK,by simp⟩
         obtain⟨a3,a7,cz,eJ⟩:=mm.2 bs bS bg cS
         refine⟨a3,a7,by rw[amb];exact cz,fun aCh=>?_⟩
         have Bs:bs=e:=by omega
         subst Bs
         rw[mP]at cS
         cases cS
         refine⟨c',rM,bZ,by rw[hW];exact ag,fun j y m oK aU ar Se=>?_⟩
         have g8:m<aO:=by rw[← Z6 j y ar];exact(cD.1 Se).1
         rw[YW j]at ar
         rw[mL,oY]
         split at ar
         ·rename_i gY
          have cg:j*aO=i*aO+(j-i)*aO:=by rw[← lE];congr 1;omega
          have c5:(j-i+1)*aO≤min xs.length len*aO:=jB aO (by omega)
          have nR:(j-i+1)*aO=(j-i)*aO+aO:=oh _ _
          rw[a6 (by omega)]
          obtain⟨v,cP,dc,fi⟩:=f2.2.2 _ y m oK ar Se
          have pL:j*aO+m-i*aO=(j-i)*aO+m:=by omega
          rw[pL]
          exact⟨v,by simpa using cP,dc,fi.mono tj.ext⟩
         ·rename_i gY
          have eo:¬ (i*aO≤j*aO+m∧j*aO+m<i*aO+min xs.length len*aO):=by
           by_cases xK:j<i
           ·have cg:=jB aO (show j+1≤i from xK)
            have c5:(j+1)*aO=j*aO+aO:=oh j aO
            omega
           ·have cg:=jB aO (show i+min xs.length len≤j by omega)
            have c5:(i+min xs.length len)*aO=i*aO+min xs.length len*aO:=lE _ _ _
            omega
          rw[a2 eo]
          obtain⟨v,cP,dc,fi⟩:=aJ j y m oK aU ar Se
          exact⟨v,cP,dc,fi.mono tj.ext⟩
       ·simp at ae
      ·simp at ae
     ·simp at ae
      obtain⟨rfl,rfl⟩:=ae
      obtain⟨rfl,_⟩:=Sg.dN.fS
      exact nothing none 0 rfl rfl rfl
     ·simp at ae
      obtain⟨rfl,rfl⟩:=ae
      obtain⟨a,cap,rfl,_,_⟩:=bf.FA Sg.dN
      exact nothing a cap rfl rfl rfl
     ·simp at ae
   ·simp at ae
  ·simp at ae
 ·simp at ae
end Go.Abs
/- Literals of slices,make,maps. -/
namespace Go.Abs
open Go
variable{P:Program}{Z:hG}{D:c8}{β:dt}{w:World}{h ai:aj}
theorem akM{size:Nat}(kL:List (Nat × ah)):∀(bO:List (Nat × Value)) (C:Array Value) (E rS:List ah),rY D β w bO kL→C.size=E.length*size→iP D β w size C E →
  se size E kL=some rS→∃ og,Instr.fill (fun i=>some (i*size,size)) C bO=some og∧og.size=rS.length*size∧rS.length=E.length∧iP D β w size og rS:=by
 induction kL with
 | nil =>
  intro bO C E rS av ao al aI
  cases bO with
  | nil=>simp[se]at aI;subst aI;exact⟨C,rfl,ao,rfl,al⟩
  | cons p r=>simp[rY]at av
 | cons q kL au =>
  intro bO C E rS av ao al aI
  cases bO with
  | nil=>simp[rY]at av
  | cons p bO =>
   obtain⟨ad,ag,aJ⟩:=av.cons
   obtain⟨i,v⟩:=p
   obtain⟨rn,x⟩:=q
   simp only at ad ag
   subst ad
   simp only[se]at aI
   by_cases af:x.cells.length=size∧0<size∧i<E.length∧fX x.cells=true
   ·rw[a6 af]at aI
    obtain⟨tr,Bq,zw,Q8⟩:=af
    have lk:=ag.cells (PM (by omega))
    have dn:v.cells.size=size:=by rw[lk.1,tr]
    have xJ:=jB size (show i+1≤E.length from zw)
    have anq:(i+1)*size=i*size+size:=oh i size
    have vS:(v.cells.zipIdx.foldl (fun cs (x:Value × Nat)=>cs.setIfInBounds (i*size+x.2) x.1) C)=((v.cells.toList.zipIdx 0).foldl (fun cs (x:Value × Nat)=>cs.setIfInBounds (i*size+x.2) x.1) C):=by
     rw[← OZ,Array.toList_zipIdx]
    obtain⟨cg,c5⟩:=Ys v.cells.toList 0 (i*size) C (by simp[dn];omega)
    obtain⟨og,aT,aW,bw,cB⟩:=au bO (v.cells.zipIdx.foldl (fun cs (x:Value × Nat)=>cs.setIfInBounds (i*size+x.2) x.1) C) (E.set i x) rS aJ
     (by rw[vS,cg];simpa using ao)
     ⟨by rw[vS,cg];simp[ao],fun j y ar=>by
      rw[oO]at ar
      split at ar
      ·simp[zw]at ar;rw[← ar];exact tr
      ·exact al.2.1 j y ar,fun j y m t ar ax=>by
      rw[vS,c5]
      rw[oO]at ar
      split at ar
      ·rename_i gY
       subst gY
       simp[zw]at ar
       subst ar
       have hm:m<size:=by rw[← tr];exact(cD.1 ax).1
       rw[a6 (by simp[dn];omega)]
       have aB:m<v.cells.size:=by omega
       have bx:v.cells[m]? = some v.cells[m]:=by simp[aB]
       have zN:=lk.2 m _ t bx ax
       have Ry:i*size+m-(i*size+0)=m:=by omega
       rw[Ry]
       exact⟨v.cells[m],by rw[← s8]at bx;exact bx,FD (CO Q8 ax) zN,zN⟩
      ·rename_i gY
       have hm:m<size:=by rw[← al.2.1 j y ar];exact(cD.1 ax).1
       have eo:¬ (i*size+0≤j*size+m∧j*size+m<i*size+0+v.cells.toList.length):=by
        simp only[JW,dn]
        rcases Nat.lt_or_gt_of_ne gY with aB|kX
        ·have:=jB size (show i+1≤j from aB)
         omega
        ·have nR:=jB size (show j+1≤i from kX)
         have oY:(j+1)*size=j*size+size:=oh j size
         omega
       rw[a2 eo]
       exact al.2.2 j y m t ar ax⟩ aI
    refine⟨og,?_,aW,by simpa using bw,cB⟩
    simp only[Instr.fill]
    rw[a2 (by simp[dn,ao];omega)]
    exact aT
   ·simp[af]at aI
theorem adu[cf]{k:Nat}{aq:List T}{c:Array Value}{ty:TypeId}(ay:er Z D β w)(aI:iP D β w k c (aq.map .t)) :
  lC Z D β w h (ep [] h h) (.t (.aP true k aq)) (.ok (.value (.slice (some ⟨w.heap.size,0,none⟩) aq.length aq.length)) (w.alloc (.cells c ty (0,0)))):=by
 have f:hd (ep [] h h) D β w (qb D w.heap.size) β (w.alloc (.cells c ty (0,0))):=Yw ay _
 refine⟨_,_,qb D w.heap.size,β,rfl,.t _ _ ?_,f,(ay.alloc _ (fun _ _ _ h=>by cases h;rfl)).qb (by simp) ay.jS (fun ds U=>by rw[heap_alloc_new]at U;cases U),fun o y ar=>?_,fun o e y ar=>.inl ⟨e,y,ar⟩⟩
 ·have Za:∀(i:Nat) x (j:Nat) t,aq[i]? = some x→x.cells[j]? = some t→∃ v,c[i*k+j]? = some v∧mv v=true∧eO D w v t:=by
   intro i x j t U ax
   obtain⟨v,cP,dc,fi⟩:=aI.2.2 i (.t x) j (.t t) (by simp[U]) (by rw[yG];simp[ax])
   exact⟨v,cP,dc,fi.dN⟩
  have an:∀(i:Nat) x,aq[i]? = some x→x.cells.length=k:=by
   intro i x U
   have:=aI.2.1 i (.t x) (by simp[U])
   rw[yG]at this;simpa using this
  refine .aP _ 0 _ _ true k aq (.inr rfl) rfl (bP _) (fun _=>rfl) an (fun j=>(c[j]?).getD default) (fun j aU=>?_) (fun i x j t U ax=>?_)
  ·have aB:j<c.size:=by have:=aI.1;simp at this;omega
   by_cases o1:k=0
   ·subst o1;simp at aU
   ·have hdiv:j / k<aq.length:=(F3 (by omega)).2 aU
    have uP:j % k<k:=mF _ (by omega)
    have rm:aq[j / k]? = some aq[j / k]:=by simp[hdiv]
    have dx:=an _ _ rm
    obtain⟨v,cP,dc,_⟩:=Za _ _ (j % k) _ rm (fC (by rw[dx];exact uP))
    have qk:j / k*k+j % k=j:=by rw[s3];exact F8 j k
    rw[qk]at cP
    simp only[cP,na]
    refine⟨?_,dc⟩
    have e:=heap_alloc_new (w:=w) (.cells c ty (0,0))
    simp only[World.cell?,e,nD]
    simpa using cP
  ·obtain⟨v,cP,dc,fi⟩:=Za i x j t U ax
   simp only[cP,na]
   exact fi.mono f.ext.sub f.ext.same
 ·rcases ar with ar|⟨ad,ag⟩
  ·simp at ar
  ·omega
theorem aBp{elem:TypeId}{size len:Nat}{z:Value}(ck:iL z=true)(an:(ah.t (fb z)).cells.length=size)(J:fX (ah.t (fb z)).cells=true)(bo:size≠0) :
  iP D β w size ((Array.range (len*size)).map (z.cells[· % z.cells.size]!)) (List.replicate len (.t (fb z))):=by
 have BR:z.cells.size=size:=by
  have:=(bf.cells (D:=D) (β:=β) (w:=w) (.t _ _ (pc ck)) (by simp)).1
  rw[this,an]
 refine iP.afG ck an J (bP len) _ (by simp) (fun i hi=>?_) bo
 simp[hi,BR]
theorem ah8{t:TypeId}{len size:Nat}{elem:TypeId}{z:T}{kL:List (Nat × ah)}{bO:Array (Nat × Value)}{elems:List ah}(ay:er Z D β w)(ax:dB P t=some (.slice elem))(J:eM P elem=some size)(bl:zeroOf P elem=some z)
  (af:¬ (size=0∨16777216<len*size∨(ah.t z).cells.length≠size∨fX (ah.t z).cells=false)) (aI:se size (List.replicate len (.t z)) kL=some elems) (av:rY D β w bO.toList kL) :
  ∃ c,(Instr.buildSlice t len bO).run P w=.ok (.slice (some ⟨w.heap.size,0,none⟩) len len) (w.alloc (.cells c elem (0,0)))∧iP D β w size c elems∧elems.length=len∧c.size=len*size:=by
 obtain⟨ky,ck,rfl,lS⟩:=AF bl
 have bo:size≠0:=fun e=>af (.inl e)
 have ad:¬ (len*size>16777216):=fun e=>af (.inr (.inl e))
 have ag:(ah.t (fb ky)).cells.length=size:=C8 fun e=>af (.inr (.inr (.inl e)))
 have aJ:fX (ah.t (fb ky)).cells=true:=by
  cases aS:fX (ah.t (fb ky)).cells with
  | true=>rfl
  | false=>exact absurd (.inr (.inr (.inr aS))) af
 have tu:=aBp (D:=D) (β:=β) (w:=w) (elem:=elem) (len:=len) ck ag aJ bo
 obtain⟨og,aT,aW,bw,cB⟩:=akM kL bO.toList _ _ elems av (by simp) tu aI
 have ao:elems.length=len:=by simpa using bw
 refine⟨og,?_,cB,ao,by rw[aW,ao]⟩
 have qf:¬ (len*size>2 ^ 24):=ad
 have k1:∀ f:Nat→Value,(Array.range 0).map f = #[]:=fun f=>by simp
 by_cases kl:len*size=0
 ·have ajT:Instr.fill (fun i=>some (i*size,size)) #[] bO.toList=some og:=by rw[kl,k1]at aT;exact aT
  simp only[Instr.buildSlice,Sem.run_bind,run_underlying ax,Result.andThen,run_sizeOf J]
  rw[a2 qf,a6 kl]
  simp only[Sem.run_bind,Sem.run_pure,Result.andThen,kl,k1,ajT,Ft]
 ·simp only[Instr.buildSlice,Sem.run_bind,run_underlying ax,Result.andThen,run_sizeOf J]
  rw[a2 qf,a2 kl]
  simp only[Sem.run_bind,Sem.run_pure,Result.andThen,lS,aT,Ft]
theorem afx{n:Nat}(h:n≤9223372036854775807):IntKind.i64.wrap (n:Int)=n:=by
 simp[IntKind.wrap,IntKind.signed,IntKind.bits]
 omega
theorem ato{t elem:TypeId}{size bytes n m:Nat}{z:T}{afA afz:ah}{afm afk:Value}(ay:er Z D β w)(ax:dB P t=some (.slice elem))(J:eM P elem=some size)(ab:uD P elem=some bytes)(bl:zeroOf P elem=some z)
  (ao:asNat afA=some n) (ov:asNat afz=some m) (aac:bf D β w afm afA) (aoE:bf D β w afk afz) (zy:size≠0∧(ah.t z).cells.length=size∧fX (ah.t z).cells=true∧n≤m∧bytes*m≤eQ∧m≤9223372036854775807) :
  ∃ c,(Instr.makeSlice t afm afk).run P w=.ok (.slice (some ⟨w.heap.size,0,none⟩) n m) (w.alloc (.cells c elem (0,0)))∧iP D β w size c (List.replicate n (.t z))∧c.size=m*size:=by
 obtain⟨bo,ad,ag,aJ,bL,dC⟩:=zy
 obtain⟨UG,rfl⟩:=A3 aac ao
 obtain⟨ln,rfl⟩:=A3 aoE ov
 obtain⟨ky,ck,rfl,lS⟩:=AF bl
 obtain⟨inf,ZB,Lq⟩:=Xt ab
 have BR:ky.cells.size=size:=by
  have:=(bf.cells (D:=D) (β:=β) (w:=w) (.t _ _ (pc ck)) (by simp)).1
  rw[this,ad]
 refine⟨(Array.range (m*size)).map (ky.cells[· % ky.cells.size]!),?_,iP.afG ck ad ag aJ _ (by simp) (fun i hi=>by simp[hi,BR]) bo,by simp⟩
 have uV:=afx (n:=n) (by omega)
 have nX:=afx (n:=m) dC
 have Lg:∀(q:Nat) (w':World),(askRoom q).run P w'=.ok () w':=by
  intro q w'
  unfold askRoom
  split<;>rfl
 have Lh:¬ ((bytes:Int)*(m:Int)>2 ^ 48):=by
  have:((bytes*m:Nat):Int)≤140737488355328:=by rw[eQ]at bL;omega
  have e:((bytes*m:Nat):Int)=(bytes:Int)*(m:Int):=by simp
  rw[← e];omega
 have Y8:((decide ((m:Int)<0) || decide ((inf.bytes:Int)*(m:Int)>2 ^ 48)) || decide ((n:Int)<0) || decide ((n:Int)>(m:Int)))=false:=by
  rw[Lq]
  simp only[J7,oi]
  exact⟨⟨⟨by omega,Lh⟩,by omega⟩,by omega⟩
 by_cases kl:m*size=0
 ·have k1:∀ f:Nat→Value,(Array.range 0).map f = #[]:=fun f=>by simp
  simp only[Instr.makeSlice,Sem.run_bind,run_underlying ax,Result.andThen,asInt,Cy,Sem.run_pure,run_typeInfo ZB,uV,nX]
  rw[a2 (by simpa using Y8)]
  simp only[Sem.run_bind,Lg,Result.andThen,run_sizeOf J,ld,kl,cQ,Sem.run_pure,k1,Ft]
 ·simp only[Instr.makeSlice,Sem.run_bind,run_underlying ax,Result.andThen,asInt,Cy,Sem.run_pure,run_typeInfo ZB,uV,nX]
  rw[a2 (by simpa using Y8)]
  simp only[Sem.run_bind,Lg,Result.andThen,run_sizeOf J,ld,kl,et,Sem.run_pure,lS,Ft]
end Go.Abs
/- Maps. -/
namespace Go.Abs
open Go
variable{P:Program}{Z:hG}{D:c8}{β:dt}{w:World}{h ai:aj}
theorem acT:∀(d:Nat) (t:TypeId) (x:T) (v:Value) (empty:Bool),qx P d t x=true→eO D w v x→∀ hv,d≤hv→(Instr.checkKey empty hv t v).run P w=.ok () w:=by
 intro d
 induction d with
 | zero=>intro t x v empty h;simp[qx]at h
 | succ d au =>
  intro t x v empty h U hv aF
  obtain⟨hv,rfl⟩:∃ n,hv=n+1:=⟨hv-1,by omega⟩
  have vR:d≤hv:=by omega
  simp only[qx]at h
  split at h
  ·rename_i ax
   simp only[Instr.checkKey,Sem.run_bind,run_underlying ax,Result.andThen]
   cases v<;>rfl
  ·rename_i ax
   simp only[Instr.checkKey,Sem.run_bind,run_underlying ax,Result.andThen]
   cases v<;>rfl
  ·rename_i ax
   simp only[Instr.checkKey,Sem.run_bind,run_underlying ax,Result.andThen]
   cases v<;>rfl
  ·rename_i fE xs ax
   cases U with
   | agg GL _ Hu fV =>
    simp only[Instr.checkKey,Sem.run_bind,run_underlying ax,Result.andThen]
    rw[← Array.forIn_toList]
    generalize fE.toList=fD at h
    clear ax
    induction fD with
    | nil=>simp
    | cons f r HY =>
     simp only[UF,fe]at h
     obtain⟨ad,ag⟩:=h
     have qu:=HY ag
     simp only[List.forIn_cons,Sem.run_bind]
     by_cases aw:f.name = "_"
     ·simp only[aw,ne_eq,not_true_eq_false,et,Sem.run_pure,Result.andThen]
      exact qu
     ·rw[a2 aw]at ad
      split at ad
      ·rename_i ad1 ri
       obtain⟨v1,b9,a3⟩:=Jo (P:=P) ri Hu fV
       have he:=au _ _ _ empty ad a3 hv vR
       simp only[ne_eq,aw,Pb,cQ,Sem.run_bind,b9,Result.andThen,he,Sem.run_pure]
       exact qu
      ·simp at ad
  ·simp at h
def rX(mes:List MapEntry)(es:List (Value × ah)):Prop:=mes.map (·.key)=es.map (·.1)
theorem rX.cons{m:MapEntry}{mes:List MapEntry}{e:Value × ah}{es:List (Value × ah)}(h:rX (m::mes) (e::es)):m.key=e.1∧rX mes es:=by
 simpa[rX]using h
def Found(mes:List MapEntry)(i0:Nat)(k:Value):Option Nat→Option (Nat × Value)→Prop
 | none,none=>True
 | some i,some (j,v)=>i=j∧i0≤i∧∃ m,mes[i-i0]? = some m∧m.val=v∧Instr.sameBits 10000 m.key k=true
 | _,_=>False
theorem Found.cons{mes:List MapEntry}{i0:Nat}{k:Value}{r:Option Nat}{q:Option (Nat × Value)}(m:MapEntry)(h:Found mes (i0+1) k r q):Found (m::mes) i0 k r q:=by
 cases r with
 | none=>cases q with
  | none=>trivial
  | some p=>exact h.elim
 | some i=>cases q with
  | none=>exact h.elim
  | some p =>
   obtain⟨j,v⟩:=p
   obtain⟨ad,ag,m',aJ,bL,dC⟩:=h
   refine⟨ad,by omega,m',?_,bL,dC⟩
   have:i-i0=(i-(i0+1))+1:=by omega
   rw[this];simpa using aJ
theorem akQ{fG:TypeId}{k:Value}(an:iL k=true):∀(es:List (Value × ah)) (mes:List MapEntry) (i0:Nat) (r:Option Nat),rX mes es→sf P fG k es i0=some r →
  ∃ q,(Instr.findAsking fG k mes i0).run P w=.ok q w∧Found mes i0 k r q:=by
 intro es
 induction es with
 | nil =>
  intro mes i0 r h4 aI
  cases mes with
  | nil=>simp[sf]at aI;subst aI;exact⟨none,rfl,trivial⟩
  | cons m mes=>simp[rX]at h4
 | cons e es au =>
  intro mes i0 r h4 aI
  cases mes with
  | nil=>simp[rX]at h4
  | cons m mes =>
   obtain⟨ad,ag⟩:=h4.cons
   obtain⟨bg,y⟩:=e
   simp only at ad
   simp only[sf]at aI
   by_cases ck:iL bg=true
   ·rw[a6 ck]at aI
    have heq:∀ b,ot P 20 fG (fb k) (fb bg)=some b→(Op.equal fG k m.key).run P w=.ok b w:=by
     intro b ab
     rw[ad]
     exact Yd (D:=fun _=>True) 20 fG _ _ b k bg ab (pc an) (pc ck) _ (by decide)
    split at aI
    ·rename_i ab
     by_cases xZ:Instr.sameBits 10000 bg k=true
     ·simp[xZ]at aI
      subst aI
      refine⟨some (i0,m.val),?_,rfl,bP _,m,by simp,rfl,by rw[ad];exact xZ⟩
      simp[Instr.findAsking,heq true ab,Result.andThen]
     ·simp[xZ]at aI
    ·rename_i ab
     obtain⟨q,cg,c5⟩:=au mes (i0+1) r ag aI
     exact⟨q,by simp[Instr.findAsking,heq false ab,Result.andThen,cg],c5.cons m⟩
    ·simp at aI
   ·simp[ck]at aI
theorem KU{fG:TypeId}{k:Value}{d:TypeDesc}(an:iL k=true)(aF:dB P fG=some d){es:List (Value × ah)}{mes:List MapEntry}{r:Option Nat}(Bz:rX mes es)(aI:sf P fG k es 0=some r) :
  ∃ q,(Instr.findKey fG k mes).run P w=.ok q w∧Found mes 0 k r q:=by
 cases aw:Instr.findNow d k mes 0 with
 | none =>
  obtain⟨q,cg,c5⟩:=akQ (w:=w) an es mes 0 r Bz aI
  exact⟨q,by simp[Instr.findKey,run_underlying aF,Result.andThen,aw,cg],c5⟩
 | some q =>
  refine⟨q,by simp[Instr.findKey,run_underlying aF,Result.andThen,aw],?_⟩
  -- aAS yI short aAP aBP is aAS yI aCL aAP aDn find
  have key:∀(es:List (Value × ah)) (mes:List MapEntry) (i0:Nat) (r:Option Nat) (q:Option (Nat × Value)),rX mes es→sf P fG k es i0=some r→Instr.findNow d k mes i0=some q→Found mes i0 k r q:=by
   intro es
   induction es with
   | nil =>
    intro mes i0 r q Bz aI aw
    cases mes with
    | nil=>simp[sf]at aI;simp[Instr.findNow]at aw;subst aI;subst aw;trivial
    | cons m mes=>simp[rX]at Bz
   | cons e es au =>
    intro mes i0 r q Bz aI aw
    cases mes with
    | nil=>simp[rX]at Bz
    | cons m mes =>
     obtain⟨ad,ag⟩:=Bz.cons
     obtain⟨bg,y⟩:=e
     simp only at ad
     simp only[sf]at aI
     by_cases ck:iL bg=true
     ·rw[a6 ck]at aI
      simp only[Instr.findNow]at aw
      have same:∀ b,Instr.sameNow d k m.key=some b→∀ bS,ot P 20 fG (fb k) (fb bg)=some bS→b=bS:=by
       intro b ab bS cS
       rw[ad]at ab
       unfold Instr.sameNow at ab
       split at ab
       ·simp only[fb,ot,aF]at cS
        split at ab
        ·rename_i qk
         rw[a6 qk]at cS
         rw[← Option.some.inj ab,← Option.some.inj cS]
        ·simp at ab
       ·simp only[fb,ot,aF]at cS
        simp at ab cS;rw[← ab,← cS]
       ·simp only[fb,ot,aF]at cS
        simp at ab cS;rw[← ab,← cS]
       ·simp at ab
      split at aw
      ·rename_i ab
       simp at aw
       subst aw
       split at aI
       ·by_cases xZ:Instr.sameBits 10000 bg k=true
        ·simp[xZ]at aI
         subst aI
         exact⟨rfl,bP _,m,by simp,rfl,by rw[ad];exact xZ⟩
        ·simp[xZ]at aI
       ·rename_i cS
        have:=same _ ab _ cS
        simp at this
       ·simp at aI
      ·rename_i ab
       split at aI
       ·rename_i cS
        have:=same _ ab _ cS
        simp at this
       ·exact(au mes (i0+1) r q ag aI aw).cons m
       ·simp at aI
      ·simp at aw
     ·simp[ck]at aI
  exact key es mes 0 r q Bz aI aw
theorem M4{mes:Array MapEntry}{es:List (Value × ah)}(ao:mes.size=es.length)(an:∀(i:Nat) m dF,mes[i]? = some m→es[i]? = some dF→m.key=dF.1∧bf D β w m.val dF.2):rX mes.toList es:=by
 unfold rX
 apply y1
 intro i
 rw[eE,eE,s8]
 by_cases hi:i<mes.size
 ·have fz:i<es.length:=by omega
  have:=(an i mes[i] es[i] (by simp[hi]) (by simp[fz])).1
  simp[hi,fz,this]
 ·have fz:¬ i<es.length:=by omega
  simp[hi,fz]
theorem acU{d:Nat}{t:TypeId}{x:T}(h:qx P d t x=true):∃ bn,dB P t=some bn:=by
 cases d with
 | zero=>simp[qx]at h
 | succ d =>
  cases ax:dB P t with
  | none=>simp[qx,ax]at h
  | some bn=>exact⟨bn,rfl⟩
theorem agB[cf]{t:TypeId}{x ix y:ah}{cm k8:Value}{ok:Bool}(ao:Df P t x ix ok h=some y)(U:bf D β w cm x)(hi:bf D β w k8 ix)
  (b4:∀(o:Nat) z,o∈cl x→h[o]? = some z→e5 D β w o z):∃ v,(Instr.lookup t cm k8 ok).run P w=.ok v w∧bf D β w v y:=by
 unfold Df at ao
 split at ao
 ·rename_i fG elem m k ax an
  have:=hi.val? an
  subst this
  split at ao
  ·rename_i es aC
   by_cases af:(iL k8 && qx P 20 fG (fb k8))=true
   ·rw[a6 af]at ao
    simp at af
    obtain⟨ck,Hr⟩:=af
    cases U with
    | mp _ b qy ab =>
     have BG:=b4 m _ (by simp[cl]) aC
     obtain⟨_,cR,mes,clock,ad,ag,mh,aJ⟩:=BG 0 b qy ab
     have bx:(getObj b).run P w=.ok (.map mes clock) w:=by simp[getObj,Sem.run,ad]
     obtain⟨bn,sn⟩:=acU Hr
     have Br:∀ e,(Instr.checkKey e 10000 fG k8).run P w=.ok () w:=fun e=>acT (D:=D) 20 fG _ k8 e Hr (pc ck) 10000 (by decide)
     split at ao
     ·rename_i i qh
      obtain⟨q,cg,c5⟩:=KU (w:=w) ck sn (M4 ag aJ) qh
      split at ao
      ·rename_i uZ dJ iB
       cases q with
       | none=>exact c5.elim
       | some p =>
        obtain⟨j,v⟩:=p
        obtain⟨rfl,_,Cj,Hv,rfl,_⟩:=c5
        have Hw:mes[i]? = some Cj:=by simpa using Hv
        have mV:=(aJ i Cj (uZ,dJ) Hw iB).2
        simp at ao
        cases ok with
        | false =>
         simp at ao;subst ao
         exact⟨Cj.val,by simp[Instr.lookup,run_underlying ax,Result.andThen,bx,Br,cg],mV⟩
        | true =>
         simp at ao;subst ao
         refine⟨.tuple #[Cj.val,.bool true],by simp[Instr.lookup,run_underlying ax,Result.andThen,bx,Br,cg],?_⟩
         refine bf.oC rfl fun i v x az U=>?_
         match i,az,U with
         | 0,az,U=>simp at az U;subst az;subst U;exact mV
         | 1,az,U=>simp at az U;subst az;subst U;exact .t _ _ (.aA _ rfl)
         | n+2,az,U=>simp at az
      ·simp at ao
     ·rename_i qh
      obtain⟨q,cg,c5⟩:=KU (w:=w) ck sn (M4 ag aJ) qh
      cases q with
      | some p=>exact c5.elim
      | none =>
       split at ao
       ·rename_i z bl
        obtain⟨ky,aoT,rfl,lS⟩:=AF bl
        have mV:bf D β w ky (.t (fb ky)):=.t _ _ (pc aoT)
        simp at ao
        cases ok with
        | false =>
         simp at ao;subst ao
         exact⟨ky,by simp[Instr.lookup,run_underlying ax,Result.andThen,bx,Br,cg,lS],mV⟩
        | true =>
         simp at ao;subst ao
         refine⟨.tuple #[ky,.bool false],by simp[Instr.lookup,run_underlying ax,Result.andThen,bx,Br,cg,lS],?_⟩
         refine bf.oC rfl fun i v x az U=>?_
         match i,az,U with
         | 0,az,U=>simp at az U;subst az;subst U;exact mV
         | 1,az,U=>simp at az U;subst az;subst U;exact .t _ _ (.aA _ rfl)
         | n+2,az,U=>simp at az
       ·simp at ao
     ·simp at ao
   ·simp[af]at ao
  ·simp at ao
 ·simp at ao
theorem W5[cf]{t:TypeId}{x ix y:ah}{cm k8 k9:Value}(ay:er Z D β w)(ao:zf P t x ix y h=some ai)(U:bf D β w cm x)(hi:bf D β w k8 ix)(ar:bf D β w k9 y)
  (b4:∀(o:Nat) z,o∈cl x→h[o]? = some z→e5 D β w o z) :
  lC Z D β w ai (ep (cl x) h ai) (.t (.aA undef)) ((do Instr.mapUpdate t cm k8 k9;pure .skip:Sem Next).run P w)∧(∀ o:Nat,¬ ep (cl x) h ai o→ai[o]? = h[o]?)∧h.length≤ai.length:=by
 unfold zf at ao
 split at ao
 ·rename_i fG elem m k ax an
  have:=hi.val? an
  subst this
  split at ao
  ·rename_i es aC
   by_cases af:(iL k8 && qx P 20 fG (fb k8))=true
   ·rw[a6 af]at ao
    simp at af
    obtain⟨ck,Hr⟩:=af
    have anR:m<h.length:=(cD.1 aC).1
    cases U with
    | mp _ b qy ab =>
     have BG:=b4 m _ (by simp[cl]) aC
     obtain⟨_,cR,mes,clock,ad,ag,mh,aJ⟩:=BG 0 b qy ab
     have bx:(getObj b).run P w=.ok (.map mes clock) w:=by simp[getObj,Sem.run,ad]
     have qq:∀ o,(setObj b o).run P w=.ok () (w.putObj b o):=fun o=>by simp[setObj,Sem.run,ad,World.putObj]
     obtain⟨bn,sn⟩:=acU Hr
     have Br:∀ e,(Instr.checkKey e 10000 fG k8).run P w=.ok () w:=fun e=>acT (D:=D) 20 fG _ k8 e Hr (pc ck) 10000 (by decide)
     have fin:∀(gI:List (Value × ah)) (Ck:Array MapEntry) (GH:Nat),ai=h.set m (.map gI)→(do Instr.mapUpdate t (.map (some b)) k8 k9;pure .skip:Sem Next).run P w=.ok .skip (w.putObj b (.map Ck GH)) →
       Ck.size=gI.length→ud Ck GH→(∀(i:Nat) q dF,Ck[i]? = some q→gI[i]? = some dF→q.key=dF.1∧bf D β w q.val dF.2) →
       lC Z D β w ai (ep (cl (.mp m)) h ai) (.t (.aA undef)) ((do Instr.mapUpdate t (.map (some b)) k8 k9;pure .skip:Sem Next).run P w)∧(∀ o:Nat,¬ ep (cl (.mp m)) h ai o→ai[o]? = h[o]?)∧h.length≤ai.length:=by
      intro gI Ck GH aY dT dn amO uM
      subst aY
      rw[dT]
      have aB:=lU ad
      obtain⟨f,g⟩:=Qo (S:=ep (cl (.mp m)) h (h.set m (.map gI))) ay (y:=.map Ck GH) (.inl (by simp[cl])) ab cR ad (by simp) (by simp) (by simp) (by simp) (by simp)
      refine⟨⟨_,_,D,β,rfl,rfl,f,g,fun o z bl aal=>?_,fun o e y ar=>.inl ⟨e,y,ar⟩⟩,fun o gv=>?_,by simp⟩
      ·rcases bl with bl|⟨aCA,aoS⟩
       ·simp[cl]at bl
        subst bl
        simp[anR]at aal
        subst aal
        intro e bS bg cS
        obtain⟨rfl,a3,aCN,xg,a7,_,_⟩:=BG e bS bg cS
        rw[ab]at cS
        cases cS
        exact⟨rfl,a3,Ck,GH,World.putObj_heap_same aB,dn,amO,fun i q dF aE jm=>⟨(uM i q dF aE jm).1,(uM i q dF aE jm).2.mono f.ext⟩⟩
       ·simp at aoS;omega
      ·rw[oO,a2]
       rintro rfl
       exact gv (.inl (by simp[cl]))
     split at ao
     ·rename_i i qh
      simp at ao
      obtain⟨q,cg,c5⟩:=KU (w:=w) ck sn (M4 ag aJ) qh
      cases q with
      | none=>exact c5.elim
      | some p =>
       obtain⟨j,v⟩:=p
       obtain⟨rfl,_,Cj,Hv,rfl,xZ⟩:=c5
       have Hw:mes[i]? = some Cj:=by simpa using Hv
       have Lu:(Instr.keyThatStays Cj.key k8).run P w=.ok k8 w:=by simp[Instr.keyThatStays,xZ]
       have Lr:i<mes.size:=(s6.1 Hw).1
       refine fin _ (mes.modify i fun e=>{ e with key:=k8,val:=k9 }) clock ao.symm ?_ (by simp[ag]) (mh.modify i _ (fun _=>rfl)) (fun j q dF aE jm=>?_)
       ·simp[Instr.mapUpdate,run_underlying ax,Result.andThen,bx,Br,cg,Hw,Lu,qq]
       ·rw[F2]at aE
        rw[oO]at jm
        by_cases gY:i=j
        ·subst gY
         simp[Hw]at aE
         rw[a6 rfl,a6 (by omega)]at jm
         simp at jm
         subst aE;subst jm
         exact⟨rfl,ar⟩
        ·rw[a2 gY]at aE jm
         exact aJ j q dF aE jm
     ·rename_i qh
      simp at ao
      obtain⟨q,cg,c5⟩:=KU (w:=w) ck sn (M4 ag aJ) qh
      cases q with
      | some p=>exact c5.elim
      | none =>
       refine fin _ (mes.push { key:=k8,val:=k9,born:=clock }) (clock+1) ao.symm ?_ (by simp[ag]) (mh.push rfl) (fun j q dF aE jm=>?_)
       ·simp[Instr.mapUpdate,run_underlying ax,Result.andThen,bx,Br,cg,qq]
       ·rw[Array.getElem?_push]at aE
        by_cases aU:j=mes.size
        ·subst aU
         simp at aE
         rw[ag,g5 (bP _)]at jm
         simp at jm
         subst aE;subst jm
         exact⟨rfl,ar⟩
        ·rw[a2 aU]at aE
         have aCa:=(s6.1 aE).1
         rw[fv (by omega)]at jm
         exact aJ j q dF aE jm
     ·simp at ao
   ·simp[af]at ao
  ·simp at ao
 ·simp at ao
end Go.Abs
/- One operation: what the evaluator says of it is what the model does. -/
namespace Go.Abs
open Go
variable{P:Program}{pol:c4}{f:FuncId}{Z:hG}{D:c8}{β:dt}{w:World}{h ai:aj}{ρ:Operand→ah}{ρr:Operand→Value}
def Good[cf](Z:hG)(D:c8)(β:dt)(w:World)(h ai:aj)(tch:List Nat)(v:ah)(r:Result Next):Prop :=
 lC Z D β w ai (ep tch h ai) v r∧(∀ o:Nat,¬ ep tch h ai o→ai[o]? = h[o]?)∧h.length≤ai.length
theorem Good.pY[cf]{tch:List Nat}{v:ah}{bU:Value}{r:Result Next}(ay:er Z D β w)(al:r=.ok (.value bU) w)(az:bf D β w bU v)
  (b4:∀(o:Nat) y,o∈tch→h[o]? = some y→e5 D β w o y):Good Z D β w h h tch v r:=by
 subst al
 refine⟨lC.pure ay az (fun o y aC ar=>?_),fun _ _=>rfl,bP _⟩
 rcases aC with aC|aC
 ·exact b4 o y aC ar
 ·omega
theorem Good.sI[cf]{tch:List Nat}{v:ah}{m:Sem Value}{r:Result Next}(ay:er Z D β w)(al:r=(do pure (Next.value (← m)):Sem Next).run P w)(az:∃ bU,m.run P w=.ok bU w∧bf D β w bU v)
  (b4:∀(o:Nat) y,o∈tch→h[o]? = some y→e5 D β w o y):Good Z D β w h h tch v r:=by
 obtain⟨bU,ad,ag⟩:=az
 refine Good.pY ay ?_ ag b4
 rw[al]
 simp only[Sem.run_bind,ad,Result.andThen,Sem.run_pure]
theorem afI(dz:∀ x,bf D β w (ρr x) (ρ x))(bO:Array (Nat × Operand)):rY D β w (bO.map fun(i,x)=>(i,ρr x)).toList (nx ρ bO.toList):=by
 have key:∀ l:List (Nat × Operand),rY D β w (l.map fun(i,x)=>(i,ρr x)) (nx ρ l):=by
  intro l
  induction l with
  | nil=>exact⟨rfl,by simp⟩
  | cons p r au =>
   obtain⟨i,x⟩:=p
   refine⟨by simpa[nx]using au.1,fun j a b ae ab=>?_⟩
   cases j with
   | zero=>simp[nx]at ae ab;subst ae;subst ab;exact⟨rfl,dz x⟩
   | succ j=>exact au.2 j a b (by simpa using ae) (by simpa[nx]using ab)
 simpa using key bO.toList
theorem Vh(dz:∀ x,bf D β w (ρr x) (ρ x))(x:Option Operand):AK D β w (x.map ρr) (x.map ρ):=by
 cases x with
 | none=>trivial
 | some x=>exact dz x
theorem alY[cf]{size:Nat}(ay:er Z D β w)(aw:∀ e,β h.length e=none) :
  Good Z D β w h (h++[.row size [] 0]) [] (.ms h.length 0 0 0 size false) (.ok (.value (.slice none 0 0)) w):=by
 refine⟨⟨_,w,D,β,rfl,.k5 none _ _ _ _ _ (fun _=>by omega),.refl D β w,ay,fun o y aC ar=>?_,fun o e y ar=>.inl ⟨e,y,ar⟩⟩,fun o aC=>xc h _ _ o aC,by simp⟩
 rcases aC with aC|⟨ad,ag⟩
 ·simp at aC
 ·have e:o=h.length:=by simp at ag;omega
  subst e
  rw[K7]at ar
  cases ar
  exact⟨by simp,fun e b k ab=>by rw[aw]at ab;cases ab⟩
theorem YR[cf]{size:Nat}{ty:TypeId}(ay:er Z D β w)(aw:∀ o e,h.length≤o→o≤h.length+1→β o e=none) :
  Good Z D β w h (h++[.row size [] 0,.row 1 [.ms h.length 0 0 0 size false] 0]) [] (.ref (h.length+1) 1 0 0)
   (.ok (.value (.pointer (some ⟨w.heap.size,0,none⟩))) (w.alloc (.cells #[.slice none 0 0] ty (0,0)))):=by
 have tu:iP D β w 1 #[.slice none 0 0] [.ms h.length 0 0 0 size false]:=by
  have:=iP.one (D:=D) (β:=β) (w:=w) (v:=.slice none 0 0) (x:=.ms h.length 0 0 0 size false) (.k5 none _ _ _ _ _ (fun _=>by omega)) rfl (by simp)
  simpa[ah.cells,Value.cells]using this
 obtain⟨bQ,g,Cn⟩:=NH (ty:=ty) (n:=h.length+1) ay tu (fun e=>aw _ e (by omega) (by omega))
 have hlen:(h++[a9.row size [] 0,a9.row 1 [.ms h.length 0 0 0 size false] 0]).length=h.length+2:=by simp
 have gV:(h++[a9.row size [] 0,a9.row 1 [.ms h.length 0 0 0 size false] 0])[h.length]? = some (.row size [] 0):=by simp
 have cg:(h++[a9.row size [] 0,a9.row 1 [.ms h.length 0 0 0 size false] 0])[h.length+1]? = some (.row 1 [.ms h.length 0 0 0 size false] 0):=by simp
 refine⟨⟨_,_,D,_,rfl,?_,bQ.mono (fun o aC=>by subst aC;exact .inr ⟨by omega,by omega⟩),g,fun o y aC ar=>?_,Bc (by omega)⟩,fun o aC=>?_,by omega⟩
 ·have:=bf.ref (D:=D) (w:=w.alloc (.cells #[.slice none 0 0] ty (0,0))) (h.length+1) 1 0 0 w.heap.size 1 (xd β (h.length+1) 1 w.heap.size 1)
  simpa using this
 ·rcases aC with aC|⟨ad,ag⟩
  ·simp at aC
  ·have e:o=h.length∨o=h.length+1:=by omega
   rcases e with rfl|rfl
   ·rw[gV]at ar
    cases ar
    refine⟨by simp,fun e b k ab=>?_⟩
    rw[Xm (by omega),aw _ _ (bP _) (by omega)]at ab
    cases ab
   ·rw[cg]at ar
    cases ar
    exact Cn
 ·by_cases aB:o<h.length
  ·rw[fv aB]
  ·have:h.length+2≤o:=by
    rcases Nat.lt_or_ge o (h.length+2)with aJ|aJ
    ·exact absurd (.inr ⟨by omega,by omega⟩) aC
    ·exact aJ
   have aT:(h++[a9.row size [] 0,a9.row 1 [.ms h.length 0 0 0 size false] 0])[o]? = none:=by
    rw[kb];omega
   have aW:h[o]? = none:=by rw[kb];omega
   rw[aT,aW]
theorem alV{l:List (Nat × Nat)}{i:Nat}{y:a9}(h:(q5 l)[i]? = some y):∃ s,y=.row s [] 0:=by
 simp only[q5,eE]at h
 cases ao:l[i]? with
 | none=>rw[ao]at h;simp at h
 | some p=>rw[ao]at h;simp at h;exact⟨p.2,h.symm⟩
theorem G4(l:List (Nat × Nat)):(q5 l).length=l.length:=by simp[q5]
theorem alU{vs:Array Value}:∀(l:List (Nat × Nat)) (n:Nat) (cs cs':List ah),oZ n l cs=some cs'→vs.size=cs.length→(∀(i:Nat) v t,vs[i]? = some v→cs[i]? = some t→bf D β w v t) →
  vs.size=cs'.length∧∀(i:Nat) v t,vs[i]? = some v→cs'[i]? = some t→bf D β w v t:=by
 intro l
 induction l with
 | nil=>intro n cs cs' h ao al;simp only[oZ,Option.some.injEq]at h;subst h;exact⟨ao,al⟩
 | cons p r au =>
  obtain⟨off,s⟩:=p
  intro n cs cs' h ao al
  simp only[oZ]at h
  split at h
  ·rename_i af
   refine au (n+1) _ cs' h (by simpa using ao) ?_
   intro i v t az ax
   rw[oO]at ax
   split at ax
   ·rename_i hi
    subst hi
    split at ax
    ·cases ax
     have mV:=al off v _ az af
     have e:=mV.dN.fS.1
     subst e
     exact .k5 none _ _ _ _ _ (fun _=>by omega)
    ·cases ax
   ·exact al i v t az ax
  ·cases h
theorem acS:∀(os mu:List ah),(sB os mu).length=mu.length∧∀(i:Nat) wN,(sB os mu)[i]? = some wN→∃ t,mu[i]? = some t∧(wN=t∨(t=.t (.aA (.slice none 0 0))∧∃ o s c,wN=.ms o 0 0 0 s c)):=by
 intro os
 induction os with
 | nil=>intro mu;exact⟨rfl,fun i wN h=>⟨wN,h,.inl rfl⟩⟩
 | cons x os au =>
  intro mu
  cases mu with
  | nil=>exact⟨rfl,fun i wN h=>⟨wN,h,.inl rfl⟩⟩
  | cons n mu =>
   obtain⟨i1,i2⟩:=au mu
   simp only[sB]
   refine⟨by simp[i1],fun i wN h=>?_⟩
   cases i with
   | zero =>
    simp only[lG,Option.some.injEq]at h
    refine⟨n,rfl,?_⟩
    split at h
    ·exact .inr ⟨rfl,_,_,_,h.symm⟩
    ·exact .inl h.symm
   | succ i=>exact i2 i wN (by simpa using h)
theorem asC{a x:ah}{v:Value}(U:bf D β w v x):bf D β w v (x8 h a x):=by
 unfold x8
 split
 ·rename_i o e i off jU
  split
  ·rename_i k elems aG aC
   split
   ·rename_i dy hold
    obtain⟨bB,aO⟩:=acS (dy.cells.drop off) (jU.map ah.t)
    have ax:=U.dN
    cases ax with
    | agg vs _ kl uR =>
     refine .agg vs _ (by rw[bB];simpa using kl) (fun i v t az ax=>?_)
     obtain⟨t0,bo,ad⟩:=aO i t ax
     rw[eE,mH]at bo
     obtain⟨z,bl,rfl⟩:=bo
     have al:=uR i v z az bl
     rcases ad with rfl|⟨ad,o,s,c,rfl⟩
     ·exact .t _ _ al
     ·cases ad
      have e:=al.fS.1
      subst e
      exact .k5 none _ _ _ _ _ (fun _=>by omega)
   ·exact U
  ·exact U
 ·rename_i o e i off cs
  split
  ·rename_i k elems aG aC
   split
   ·rename_i dy hold
    obtain⟨bB,aO⟩:=acS (dy.cells.drop off) cs
    cases U with
    | agg vs _ kl uR =>
     refine .agg vs _ (by rw[bB];exact kl) (fun i v t az ax=>?_)
     obtain⟨t0,bo,ad⟩:=aO i t ax
     have al:=uR i v t0 az bo
     rcases ad with rfl|⟨ad,o,s,c,rfl⟩
     ·exact al
     ·subst ad
      have e:=al.dN.fS.1
      subst e
      exact .k5 none _ _ _ _ _ (fun _=>by omega)
   ·exact U
  ·exact U
 ·exact U
theorem atY{s:Nat}{a x:ah}{v:Value}(U:bf D β w v x):bf D β w v (U4 s a x):=by
 unfold U4
 split
 ·have e:=U.dN.fS.1
  subst e
  exact .k5 none _ _ _ _ _ (fun _=>by omega)
 ·exact U
theorem asD{P:Program}{pol:c4}{f:FuncId}{t:TypeId}{Dj o:Operand}{a x:ah}{v:Value}(U:bf D β w v x):bf D β w v (IT P pol f t Dj o h a x):=by
 unfold IT
 split
 ·exact atY U
 ·split
  ·exact asC U
  ·exact U
theorem alZ[cf]{l:List (Nat × Nat)}{cs:List ah}{v:Value}{ty:TypeId}(ay:er Z D β w)(al:bf D β w v (.agg cs))(J:fX cs=true)(aw:∀ o e,h.length≤o→o≤h.length+l.length→β o e=none) :
  Good Z D β w h (h++(q5 l++[.row cs.length [.agg cs] 0])) [] (.ref (h.length+l.length) 1 0 0)
   (.ok (.value (.pointer (some ⟨w.heap.size,0,none⟩))) (w.alloc (.cells v.cells ty (0,0)))):=by
 have tu:=iP.one (D:=D) (β:=β) (w:=w) al (by simpa[ah.cells]using J) (by simp)
 simp only[ah.cells]at tu
 obtain⟨bQ,g,Cn⟩:=NH (ty:=ty) (n:=h.length+l.length) ay tu (fun e=>aw _ e (by omega) (by omega))
 have hlen:(h++(q5 l++[a9.row cs.length [.agg cs] 0])).length=h.length+l.length+1:=by simp[G4];omega
 have cg:(h++(q5 l++[a9.row cs.length [.agg cs] 0]))[h.length+l.length]? = some (.row cs.length [.agg cs] 0):=by
  rw[g5 (by omega),g5 (by rw[G4];omega),G4]
  simp
 refine⟨⟨_,_,D,_,rfl,?_,bQ.mono (fun o aC=>by subst aC;exact .inr ⟨by omega,by omega⟩),g,fun o y aC ar=>?_,Bc (by omega)⟩,fun o aC=>?_,by omega⟩
 ·have:=bf.ref (D:=D) (w:=w.alloc (.cells v.cells ty (0,0))) (h.length+l.length) 1 0 0 w.heap.size cs.length (xd β (h.length+l.length) 1 w.heap.size cs.length)
  simpa using this
 ·rcases aC with aC|⟨ad,ag⟩
  ·simp at aC
  ·by_cases e:o=h.length+l.length
   ·subst e
    rw[cg]at ar
    cases ar
    exact Cn
   ·have aB:o-h.length<l.length:=by omega
    rw[g5 (by omega),fv (by rw[G4];omega)]at ar
    obtain⟨s,rfl⟩:=alV ar
    refine⟨by simp,fun bs b k ab=>?_⟩
    rw[Xm (by omega),aw _ _ (by omega) (by omega)]at ab
    cases ab
 ·by_cases aB:o<h.length
  ·rw[fv aB]
  ·have:h.length+l.length+1≤o:=by
    rcases Nat.lt_or_ge o (h.length+l.length+1)with aJ|aJ
    ·exact absurd (.inr ⟨by omega,by omega⟩) aC
    ·exact aJ
   have aT:(h++(q5 l++[a9.row cs.length [.agg cs] 0]))[o]? = none:=by
    rw[kb];omega
   have aW:h[o]? = none:=by rw[kb];omega
   rw[aT,aW]
theorem akZ{x:Option ah}{h:aj}{r:g4}(U:(match x with|some v=>some (g4.val v h)|none=>none)=some r):∃ v,x=some v∧r=.val v h:=by
 cases x with
 | none=>simp at U
 | some v=>simp at U;exact⟨v,rfl,U.symm⟩
theorem EM{t:TypeId}(h:mX P t=true):∃ e,dB P t=some (.slice e):=by
 unfold mX at h
 split at h
 ·rename_i e he;exact⟨e,he⟩
 ·simp at h
theorem aeE{v:Value}{clip:Bool}{k:Nat}{x:T}{xs:List T}(h:eO D w v (.aP clip k (x::xs))):∃ a len cap,v=.slice (some a) len cap:=by
 cases h with
 | aP b off len cap _ _ _ cR hlen fF gu an c af al=>exact⟨_,_,_,rfl⟩
theorem ads{v:Value}{o e i n k:Nat}{clip:Bool}(h:bf D β w v (.ms o e i (n+1) k clip)):∃ a len cap,v=.slice (some a) len cap:=by
 rcases I5 h with⟨bo,_⟩|⟨b,cap,m,_,_,_,_,_,_,_,az⟩
 ·omega
 ·exact⟨_,_,_,az⟩
theorem Fz{t e:TypeId}(ax:dB P t=some (.slice e))(a:Option Addr)(l c:Nat)(ik il:Operand)(op:BinOp) :
  ((eqGuard op t ik il (.slice a l c) (.slice none 0 0)).run P w=.ok () w∧(binOp .eql t (.slice a l c) (.slice none 0 0)).run P w=.ok (.bool a.isNone) w∧(binOp .neq t (.slice a l c) (.slice none 0 0)).run P w=.ok (.bool !a.isNone) w) ∧
  ((eqGuard op t ik il (.slice none 0 0) (.slice a l c)).run P w=.ok () w∧(binOp .eql t (.slice none 0 0) (.slice a l c)).run P w=.ok (.bool a.isNone) w∧(binOp .neq t (.slice none 0 0) (.slice a l c)).run P w=.ok (.bool !a.isNone) w):=by
 have cg:(eqGuard op t ik il (.slice a l c) (.slice none 0 0)).run P w=.ok () w:=by
  unfold eqGuard;cases op<;>rfl
 have c5:(eqGuard op t ik il (.slice none 0 0) (.slice a l c)).run P w=.ok () w:=by
  unfold eqGuard;cases op<;>rfl
 have alG:∀ d,(Op.equalIn (d+1) t (.slice a l c) (.slice none 0 0)).run P w=.ok a.isNone w:=by
  intro d
  cases a<;>simp only[Op.equalIn,Sem.run_bind,run_underlying ax,Result.andThen]<;>rfl
 have alH:∀ d,(Op.equalIn (d+1) t (.slice none 0 0) (.slice a l c)).run P w=.ok a.isNone w:=by
  intro d
  cases a<;>simp only[Op.equalIn,Sem.run_bind,run_underlying ax,Result.andThen]<;>rfl
 have a3:(Op.equal t (.slice a l c) (.slice none 0 0)).run P w=.ok a.isNone w:=alG 9999
 have a7:(Op.equal t (.slice none 0 0) (.slice a l c)).run P w=.ok a.isNone w:=alH 9999
 refine⟨⟨cg,?_,?_⟩,c5,?_,?_⟩
 ·simp[binOp,a3,Result.andThen]
 ·simp[binOp,a3,Result.andThen]
 ·simp[binOp,a7,Result.andThen]
 ·simp[binOp,a7,Result.andThen]
theorem agv{t:TypeId}{x y:ah}{cm k9:Value}{b:Bool}(h:mJ P t x y=some b)(U:bf D β w cm x)(ar:bf D β w k9 y)(op:BinOp)(ik il:Operand) :
  (eqGuard op t ik il cm k9).run P w=.ok () w∧(binOp .eql t cm k9).run P w=.ok (.bool b) w∧(binOp .neq t cm k9).run P w=.ok (.bool !b) w:=by
 unfold mJ at h
 split at h
 ·rename_i xs ys
  by_cases kX:P.eqGuardType P.depth t=true
  ·simp[kX]at h
  ·rw[a2 kX]at h
   have he:=Yd (P:=P) (D:=D) (w:=w) 20 t _ _ b cm k9 h U.dN ar.dN 10000 (by decide)
   have dM:=U.dN
   have pS:=ar.dN
   cases dM with
   | agg GL _ _ _ =>
    cases pS with
    | agg cj _ _ _ =>
     refine⟨?_,?_,?_⟩
     ·unfold eqGuard
      cases op<;>simp[program,Sem.run,bind,Sem.bind,kX,pure]
     ·rw[run_eql_struct,he];rfl
     ·rw[run_neq_struct,he];rfl
 ·obtain⟨rfl,_⟩:=U.dN.fS
  obtain⟨rfl,_⟩:=ar.dN.fS
  by_cases J:mX P t=true
  ·obtain⟨e,ax⟩:=EM J
   simp[J]at h;subst h
   exact(Fz ax none 0 0 ik il op).1
  ·simp[J]at h
 ·obtain⟨a,l,c,rfl⟩:=aeE U.dN
  obtain⟨rfl,_⟩:=ar.dN.fS
  by_cases J:mX P t=true
  ·obtain⟨e,ax⟩:=EM J
   simp[J]at h;subst h
   exact(Fz ax (some a) l c ik il op).1
  ·simp[J]at h
 ·obtain⟨a,l,c,rfl⟩:=aeE ar.dN
  obtain⟨rfl,_⟩:=U.dN.fS
  by_cases J:mX P t=true
  ·obtain⟨e,ax⟩:=EM J
   simp[J]at h;subst h
   exact(Fz ax (some a) l c ik il op).2
  ·simp[J]at h
 ·obtain⟨a,l,c,rfl⟩:=ads U
  obtain⟨rfl,_⟩:=ar.dN.fS
  by_cases J:mX P t=true
  ·obtain⟨e,ax⟩:=EM J
   simp[J]at h;subst h
   exact(Fz ax (some a) l c ik il op).1
  ·simp[J]at h
 ·obtain⟨a,l,c,rfl⟩:=ads ar
  obtain⟨rfl,_⟩:=U.dN.fS
  by_cases J:mX P t=true
  ·obtain⟨e,ax⟩:=EM J
   simp[J]at h;subst h
   exact(Fz ax (some a) l c ik il op).2
  ·simp[J]at h
 ·obtain⟨rfl,_⟩:=U.dN.fS
  obtain⟨rfl,_⟩:=ar.dN.fS
  by_cases J:mX P t=true
  ·obtain⟨e,ax⟩:=EM J
   simp[J]at h;subst h
   exact(Fz ax _ _ _ ik il op).1
  ·simp[J]at h
 ·simp at h
theorem agq{t:TypeId}{op:BinOp}{x y v:ah}{cm k9:Value}{ik il:Operand}(h:s9 P op t ik il x y=some v)(U:bf D β w cm x)(ar:bf D β w k9 y) :
  ∃ bU,(do eqGuard op t ik il cm k9;binOp op t cm k9:Sem Value).run P w=.ok bU w∧bf D β w bU v:=by
 have KR:∀ b,mJ P t x y=some b→(op=.eql→v=.t (.aA (.bool b))→∃ bU,(do eqGuard op t ik il cm k9;binOp op t cm k9:Sem Value).run P w=.ok bU w∧bf D β w bU v) ∧
   (op=.neq→v=.t (.aA (.bool !b))→∃ bU,(do eqGuard op t ik il cm k9;binOp op t cm k9:Sem Value).run P w=.ok bU w∧bf D β w bU v):=by
  intro b ab
  obtain⟨cg,c5,nR⟩:=agv ab U ar op ik il
  refine⟨fun aT aW=>?_,fun aT aW=>?_⟩
  ·subst aT;subst aW
   exact⟨.bool b,by simp[cg,Result.andThen,c5],.t _ _ (.aA _ rfl)⟩
  ·subst aT;subst aW
   exact⟨.bool !b,by simp[cg,Result.andThen,nR],.t _ _ (.aA _ rfl)⟩
 unfold s9 at h
 split at h
 ·split at h
  ·split at h
   ·rename_i b ab;simp at h;exact(KR b ab).1 rfl h.symm
   ·simp at h
  ·split at h
   ·rename_i b ab;simp at h;exact(KR b ab).2 rfl h.symm
   ·simp at h
  ·simp at h
 ·rename_i a b _
  obtain⟨rfl,_⟩:=U.dN.fS
  obtain⟨rfl,_⟩:=ar.dN.fS
  split at h
  ·rename_i r al
   by_cases aC:iL r=true
   ·simp[aC]at h;subst h
    exact⟨r,Vu al w,.t _ _ (pc aC)⟩
   ·simp[aC]at h
  ·simp at h
 ·split at h
  ·split at h
   ·rename_i b ab;simp at h;exact(KR b ab).1 rfl h.symm
   ·simp at h
  ·split at h
   ·rename_i b ab;simp at h;exact(KR b ab).2 rfl h.symm
   ·simp at h
  ·simp at h
theorem asU[cf]{at_:Array TypeId}{ty:TypeId}{x v:ah}{cm:Value}(ab:mI P .len at_.toList ty [x] h=some (.val v ai))(U:bf D β w cm x)
  (b4:∀(o:Nat) y,o∈cl x→h[o]? = some y→e5 D β w o y):ai=h∧∃ bU,(Builtin.len_ at_ ty #[cm]).run P w=.ok bU w∧bf D β w bU v:=by
 simp only[mI]at ab
 split at ab
 ·rename_i t iU
  have xB:at_[0]? = some t:=by rw[← s8,iU];rfl
  cases ax:dB P t with
  | none=>simp[ax]at ab
  | some d =>
   simp only[ax]at ab
   split at ab
   ·rename_i e aF
    simp at aF;subst aF
    split at ab
    ·rename_i n aw
     simp at ab
     obtain⟨rfl,rfl⟩:=ab
     refine⟨rfl,.int .i64 n,?_,.t _ _ (.aA _ rfl)⟩
     unfold lenOf at aw
     split at aw
     ·rename_i clip k xs
      obtain⟨a,cap,rfl,_,_⟩:=bf.FA U.dN
      simp at aw;subst aw
      simp[Builtin.len_,xB,run_underlying ax,Result.andThen,goInt]
     ·obtain⟨rfl,_⟩:=U.dN.fS
      simp at aw;subst aw
      simp[Builtin.len_,xB,run_underlying ax,Result.andThen,goInt]
     ·rename_i o e i len k clip
      obtain⟨a,cap,rfl,_,_⟩:=Nh U
      simp at aw;subst aw
      simp[Builtin.len_,xB,run_underlying ax,Result.andThen,goInt]
     ·simp at aw
    ·simp at ab
   ·rename_i aF
    simp at aF;subst aF
    split at ab
    ·rename_i s
     obtain⟨rfl,_⟩:=U.dN.fS
     simp at ab
     obtain⟨rfl,rfl⟩:=ab
     exact⟨rfl,.int .i64 s.size,by simp[Builtin.len_,xB,run_underlying ax,Result.andThen,goInt],.t _ _ (.aA _ rfl)⟩
    ·simp at ab
   ·rename_i n e aF
    simp at aF;subst aF
    simp at ab
    obtain⟨rfl,rfl⟩:=ab
    exact⟨rfl,.int .i64 n,by simp[Builtin.len_,xB,run_underlying ax,Result.andThen,goInt],.t _ _ (.aA _ rfl)⟩
   ·rename_i a aF
    simp at aF;subst aF
    split at ab
    ·rename_i n e HG
     simp at ab
     obtain⟨rfl,rfl⟩:=ab
     exact⟨rfl,.int .i64 n,by simp[Builtin.len_,xB,run_underlying ax,run_underlying HG,Result.andThen,goInt],.t _ _ (.aA _ rfl)⟩
    ·simp at ab
   ·rename_i fG e aF
    simp at aF;subst aF
    split at ab
    ·rename_i o
     split at ab
     ·rename_i es aC
      simp at ab
      obtain⟨rfl,rfl⟩:=ab
      cases U with
      | mp _ b qy mP =>
       obtain⟨_,cR,mes,clock,ad,ag,mh,aJ⟩:=b4 o _ (by simp[cl]) aC 0 b qy mP
       have bx:(getObj b).run P w=.ok (.map mes clock) w:=by simp[getObj,Sem.run,ad]
       exact⟨rfl,.int .i64 es.length,by simp[Builtin.len_,xB,run_underlying ax,Result.andThen,goInt,bx,ag],.t _ _ (.aA _ rfl)⟩
     ·simp at ab
    ·simp at ab
   ·simp at ab
 ·simp at ab
end Go.Abs
/- All operations but calls of functions. -/
namespace Go.Abs
open Go
variable{P:Program}{pol:c4}{f:FuncId}{Z:hG}{D:c8}{β:dt}{w:World}{h ai:aj}{ρ:Operand→ah}{ρr:Operand→Value}
theorem atr{α AG:Type}{g:α→Option AG}:∀ {l:List α} {r:List AG},b5 g l=some r→l.length=r.length∧∀(i:Nat) b,r[i]? = some b→∃ a,l[i]? = some a∧g a=some b:=by
 intro l
 induction l with
 | nil=>intro r h;simp[b5]at h;subst h;exact⟨rfl,fun i b ab=>by simp at ab⟩
 | cons a l au =>
  intro r h
  simp only[b5]at h
  cases aI:g a with
  | none=>rw[aI]at h;simp at h
  | some b =>
   rw[aI]at h
   cases hm:b5 g l with
   | none=>rw[hm]at h;simp at h
   | some gB =>
    rw[hm]at h
    simp only[Option.some.injEq]at h
    subst h
    obtain⟨ad,ag⟩:=au hm
    refine⟨by simp[ad],fun i c af=>?_⟩
    cases i with
    | zero=>simp at af;subst af;exact⟨a,rfl,aI⟩
    | succ i=>obtain⟨cb,cP,dc⟩:=ag i c (by simpa using af);exact⟨cb,by simpa using cP,dc⟩
theorem Xu{x:T}{b:UInt8}(h:byteOf x=some b):x=.aA (.int .u8 (b.toNat:Int)):=by
 unfold byteOf at h
 split at h
 ·rename_i n
  split at h
  ·rename_i aw
   cases h
   congr 2
   simp
   omega
  ·exact (by cases h)
 ·exact (by cases h)
theorem azt{s t:TypeId}{c:Bool}{k:Nat}{y:T}{ys:List T}{Dm:ah}{afo:Value}(h:N6 P s t (y::ys)=some Dm)(al:eO D w afo (.aP c k (y::ys))) :
  ∃ l:List UInt8,Dm=.t (.aA (.string ⟨l.toArray⟩))∧(convert s t afo).run P w=.ok (.string ⟨l.toArray⟩) w:=by
 unfold N6 at h
 split at h
 ·rename_i e J ax
  split at h
  ·rename_i l he ao
   cases h
   refine⟨l,rfl,?_⟩
   obtain⟨ad,ag⟩:=atr ao
   generalize jO:y::ys=xs at al ad ag
   cases al with
   | rF=>simp at jO
   | aP b off len cap _ _ _ cR hlen fF gu an Dv af mV =>
    have By:k=1:=by
     obtain⟨j0,nV⟩:∃ j0,l[0]? = some j0:=by
      have:0<l.length:=by rw[← ad,← jO];simp
      exact⟨_,fC this⟩
     obtain⟨x,U,Q7⟩:=ag 0 j0 nV
     have:=an 0 x U
     rw[Xu Q7]at this
     exact this.symm
    subst By
    have gk:len=l.length:=by rw[hlen,ad]
    subst gk
    refine run_convert_bytes_back w s t e ⟨b,off,none⟩ cap l J he ax fun j aU=>?_
    obtain⟨x,U,Q7⟩:=ag j l[j] (fC aU)
    have o7:=Xu Q7
    subst o7
    have D0:=(af j (by omega)).1
    have zM:=mV j _ 0 _ U rfl
    have:=zM.fS.1
    simp only[w9,s0]at this
    rw[this]at D0
    have ae:(⟨b,off,none⟩:Addr).add j=⟨b,off+j,none⟩:=by simp[Addr.add]
    rw[ae]
    exact D0
  ·exact (by cases h)
 ·exact (by cases h)
def nt:g4→Option (ah × aj)
 | .val v h=>some (v,h)
 | .skip h=>some (.t (.aA undef),h)
 | .call _ _=>none
theorem adn{at_:List TypeId}{ty:TypeId}{X Y:ah}{r:g4}{b:Builtin}(ab:b=.min∨b=.max)(ae:mI P b at_ ty [X,Y] h=some r) :
  ∃ k a bg c,X=.t (.aA (.int k a))∧Y=.t (.aA (.int bg c))∧((b=.min∧r=.val (.t (.aA (.int k (if c<a then c else a)))) h)∨(b=.max∧r=.val (.t (.aA (.int k (if a<c then c else a)))) h)):=by
 unfold mI at ae
 rcases ab with rfl|rfl
 ·split at ae<;>simp_all
  exact⟨_,_,⟨rfl,rfl⟩,_,_,⟨rfl,rfl⟩,ae.symm⟩
 ·split at ae<;>simp_all
  exact⟨_,_,⟨rfl,rfl⟩,_,_,⟨rfl,rfl⟩,ae.symm⟩
theorem ah9[cf]{o:Oper}{c:Call}{b:Builtin}{r:g4}{v:ah}(aC:o.op=.call c)(af:c.callee=.builtin b)(ae:mI P b c.argTypes.toList o.type (c.args.toList.map ρ) h=some r)(az:nt r=some (v,ai))
  (ay:er Z D β w) (dz:∀ x,bf D β w (ρr x) (ρ x)) (aw:∀ o e,h.length≤o→o<ai.length→β o e=none)
  (b4:∀(cC:Nat) y,cC∈(cO pol f ρ o).getD []→h[cC]? = some y→e5 D β w cC y) :
  Good Z D β w h ai ((cO pol f ρ o).getD []) v ((execOp ρr o).run P w):=by
 have hex:∀ vs,c.args.map ρr=vs→∃ cs,(execOp ρr o).run P w=(builtin b c.argTypes o.type cs vs).run P w:=by
  intro vs g9
  exact⟨_,by simp only[execOp,aC,resolve,af,Sem.run_bind,Sem.run_pure,Result.andThen,invoke,g9];rfl⟩
 have lj:∀ l:List Operand,c.args.toList=l→c.args.map ρr=(l.map ρr).toArray:=by
  intro l ao
  apply vB
  simp[ao]
 cases ao:c.args.toList with
 | nil=>rw[ao]at ae;cases b<;>simp[mI]at ae
 | cons x l =>
  cases eC:l with
  | nil =>
   subst eC
   rw[ao]at ae
   cases b<;>simp only[gz,nB]at ae<;>try(simp[mI]at ae;done)
   -- len
   have jq:(cO pol f ρ o).getD []=cl (ρ x):=by simp[cO,aC,af,ao]
   rw[jq]at b4 ⊢
   cases r with
   | skip _=>simp only[mI]at ae;repeat (split at ae<;>try(simp at ae))
   | call _ _=>simp only[mI]at ae;repeat (split at ae<;>try(simp at ae))
   | val v0 bo =>
    simp[nt]at az
    obtain⟨rfl,rfl⟩:=az
    obtain⟨rfl,al⟩:=asU (P:=P) ae (dz x) b4
    obtain⟨cs,q9⟩:=hex _ (lj _ ao)
    refine Good.sI ay ?_ al b4
    rw[q9]
    rfl
  | cons y l =>
   cases Lv:l with
   | cons z l=>subst eC;subst Lv;rw[ao]at ae;cases b<;>simp[mI]at ae
   | nil =>
    subst eC;subst Lv
    rw[ao]at ae
    obtain⟨cs,g9⟩:=hex _ (lj _ ao)
    cases b<;>simp only[gz,nB]at ae g9<;>try(simp[mI]at ae;done)
    · -- append
     have jq:(cO pol f ρ o).getD []=cl (ρ x)++cl (ρ y):=by simp[cO,aC,af,ao]
     rw[jq]at b4 ⊢
     simp only[mI]at ae
     split at ae
     ·rename_i t u iU
      split at ae
      ·rename_i q1 hu
       split at ae
       ·rename_i v0 bo Q1
        simp at ae
        subst ae
        simp[nt]at az
        obtain⟨rfl,rfl⟩:=az
        have amI:c.argTypes = #[t,u]:=by apply vB;simp[iU]
        have:=agm (ty:=o.type) ay Q1 hu (dz x) (dz y) (fun ao e=>aw _ e (bP _) ao) b4
        rw[g9,amI]
        exact this
       ·simp at ae
      ·simp at ae
     ·simp at ae
    · -- copy
     have jq:(cO pol f ρ o).getD []=cl (ρ x)++cl (ρ y):=by simp[cO,aC,af,ao]
     rw[jq]at b4 ⊢
     simp only[mI]at ae
     split at ae
     ·rename_i t rest iU
      split at ae
      ·rename_i v0 bo Q1
       simp at ae
       subst ae
       simp[nt]at az
       obtain⟨rfl,rfl⟩:=az
       have xB:c.argTypes[0]? = some t:=by rw[← s8,iU];rfl
       have:=agt (ty:=o.type) ay Q1 xB (dz x) (dz y) b4
       rw[g9]
       exact this
      ·simp at ae
     ·simp at ae
    · -- max
     have jq:(cO pol f ρ o).getD []=[]:=by simp[cO,aC,af]
     rw[jq]at b4 ⊢
     obtain⟨k,a,bg,e,U,ar,al⟩:=adn (.inr rfl) ae
     simp at al
     subst al
     simp[nt]at az
     obtain⟨rfl,rfl⟩:=az
     have ad:=dz x
     have ag:=dz y
     rw[U]at ad
     rw[ar]at ag
     have aT:=ad.dN.fS.1
     have aW:=ag.dN.fS.1
     refine Good.pY ay ?_ (.t _ _ (.aA _ rfl)) b4
     rw[g9,aT,aW]
     rfl
    · -- min
     have jq:(cO pol f ρ o).getD []=[]:=by simp[cO,aC,af]
     rw[jq]at b4 ⊢
     obtain⟨k,a,bg,e,U,ar,al⟩:=adn (.inl rfl) ae
     simp at al
     subst al
     simp[nt]at az
     obtain⟨rfl,rfl⟩:=az
     have ad:=dz x
     have ag:=dz y
     rw[U]at ad
     rw[ar]at ag
     have aT:=ad.dN.fS.1
     have aW:=ag.dN.fS.1
     refine Good.pY ay ?_ (.t _ _ (.aA _ rfl)) b4
     rw[g9,aT,aW]
     rfl
theorem Nz(dz:∀ x,bf D β w (ρr x) (ρ x))(l:Array Operand)(i:Nat)(v:Value)(x:ah)(az:(l.map ρr)[i]? = some v)(U:(l.toList.map ρ)[i]? = some x):bf D β w v x:=by
 rw[Array.getElem?_map,mH]at az
 rw[eE,mH]at U
 obtain⟨a,ae,rfl⟩:=az
 obtain⟨b,ab,rfl⟩:=U
 rw[s8,ae]at ab
 cases ab
 exact dz a
set_option maxHeartbeats 1000000 in
theorem Vf[cf]{o:Oper}{r:g4}{v:ah}(ae:bj P pol f ρ h o=some r)(az:nt r=some (v,ai))(ay:er Z D β w)(dz:∀ x,bf D β w (ρr x) (ρ x))(aw:∀ o e,h.length≤o→o<ai.length→β o e=none)
  (b4:∀(cC:Nat) y,cC∈(cO pol f ρ o).getD []→h[cC]? = some y→e5 D β w cC y) :
  Good Z D β w h ai ((cO pol f ρ o).getD []) v ((execOp ρr o).run P w):=by
 have iV:h.length<ai.length→∀ e,β h.length e=none:=fun ao e=>aw _ e (bP _) ao
 have flag:∀ {x:Option ah},(match x with|some v=>some (g4.val v h)|none=>none)=some r→x=some v∧ai=h:=by
  intro x U
  obtain⟨v0,ad,ag⟩:=akZ U
  subst ag
  simp[nt]at az
  exact⟨by rw[ad,az.1],az.2.symm⟩
 have val:∀ {v0:ah} {bo:aj},some (g4.val v0 bo)=some r→v0=v∧ai=bo:=by
  intro v0 bo e
  cases e
  simp[nt]at az
  exact⟨az.1,az.2.symm⟩
 cases aN:o.op with
 | move x =>
  simp only[bj,aN]at ae
  obtain⟨rfl,rfl⟩:=val ae
  exact Good.pY ay (by simp[execOp,aN]) (dz x) b4
 | assign x =>
  simp only[bj,aN]at ae
  have plain:Good Z D β w h h ((cO pol f ρ o).getD []) (ρ x) ((execOp ρr o).run P w):=Good.pY ay (by simp[execOp,aN]) (dz x) b4
  split at ae
  ·split at ae
   ·rename_i elem U ax
    split at ae
    ·rename_i size J
     obtain⟨rfl,rfl⟩:=val ae
     have jq:(cO pol f ρ o).getD []=[]:=by simp[cO,aN]
     rw[jq]
     have fV:=dz x
     rw[U]at fV
     have e:=fV.dN.fS.1
     have:(execOp ρr o).run P w=.ok (.value (.slice none 0 0)) w:=by simp[execOp,aN,e]
     rw[this]
     exact alY ay (iV (by simp))
    ·simp at ae
   ·obtain⟨rfl,rfl⟩:=val ae
    exact plain
  ·obtain⟨rfl,rfl⟩:=val ae
   exact plain
 | pick c a b =>
  simp only[bj,aN]at ae
  split at ae
  ·rename_i ki af
   have Eg:=dz c
   rw[af]at Eg
   have ajX:=Eg.dN.fS.1
   have dT:(execOp ρr o).run P w=.ok (.value (if ki then ρr a else ρr b)) w:=by simp[execOp,aN,ajX,asBool,Result.andThen]
   split at ae
   ·rename_i aDo aDy U ar
    obtain⟨rfl,rfl⟩:=val ae
    have Z1:=dz a
    have Z2:=dz b
    rw[U]at Z1
    rw[ar]at Z2
    refine Good.pY ay dT ?_ b4
    rw[Z1.dN.fS.1,Z2.dN.fS.1]
    cases ki
    ·exact .t _ _ (.aA _ rfl)
    ·exact .t _ _ (.aA _ rfl)
   ·obtain⟨rfl,rfl⟩:=val ae
    refine Good.pY ay dT ?_ b4
    cases ki
    ·exact dz b
    ·exact dz a
  ·simp at ae
 | alloc t =>
  simp only[bj,aN]at ae
  have jq:(cO pol f ρ o).getD []=[]:=by simp[cO,aN]
  rw[jq]
  have R4:∀ ky,(∀ w,(zeroValue t).run P w=.ok ky w)→(execOp ρr o).run P w=.ok (.value (.pointer (some ⟨w.heap.size,0,none⟩))) (w.alloc (.cells ky.cells t (0,0))):=by
   intro ky lS
   simp[execOp,aN,Instr.alloc,lS,newVar,Ft,Result.andThen]
  split at ae
  ·split at ae
   ·rename_i elem bl ax
    split at ae
    ·rename_i size J
     obtain⟨rfl,rfl⟩:=val ae
     obtain⟨ky,ck,BQ,lS⟩:=AF bl
     have aoV:ky=.slice none 0 0:=by
      have:=pc (D:=D) (w:=w) ck
      rw[← BQ]at this
      exact this.fS.1
     subst aoV
     rw[R4 _ lS]
     exact YR ay (fun o e ad ag=>aw o e ad (by simp;omega))
    ·simp at ae
   ·rename_i jU fields bl ax
    split at ae
    ·rename_i l ao
     split at ae
     ·rename_i cs q9
      split at ae
      ·rename_i aS
       obtain⟨rfl,rfl⟩:=val ae
       obtain⟨ky,ck,BQ,lS⟩:=AF bl
       have mV:=pc (D:=D) (w:=w) ck
       rw[← BQ]at mV
       rw[R4 _ lS]
       cases mV with
       | agg vs _ kl uR =>
        obtain⟨bB,aO⟩:=alU (D:=D) (β:=β) (w:=w) (vs:=vs) l h.length _ _ q9 (by simpa using kl) (fun i v t az ax=>by
         rw[eE]at ax
         cases zS:jU[i]? with
         | none=>rw[zS]at ax;simp at ax
         | some x=>rw[zS]at ax;simp at ax;subst ax;exact .t _ _ (uR i v x az zS))
        exact alZ ay (.agg vs cs bB aO) aS (fun o e ad ag=>aw o e ad (by simp[G4];omega))
      ·simp at ae
     ·simp at ae
    ·simp at ae
   ·simp at ae
  ·split at ae
   ·rename_i z bl
    split at ae
    ·rename_i aS
     obtain⟨rfl,rfl⟩:=val ae
     obtain⟨ky,ck,rfl,lS⟩:=AF bl
     rw[R4 _ lS]
     exact⟨adv ay (.t _ _ (pc ck)) aS (by simp) (iV (by simp)),fun o aC=>xc h _ _ o aC,by simp⟩
    ·simp at ae
   ·simp at ae
 | box t x =>
  simp only[bj,aN]at ae
  have jq:(cO pol f ρ o).getD []=[]:=by simp[cO,aN]
  rw[jq]
  have R5:(execOp ρr o).run P w=.ok (.value (.pointer (some ⟨w.heap.size,0,none⟩))) (w.alloc (.cells (ρr x).cells t (0,0))):=by
   simp[execOp,aN,ahR,Result.andThen]
  have XD:∀ y,ρ x=y→(h.length<h.length+1→∀ e,β h.length e=none)→(fX y.cells && !y.cells.isEmpty)=true→Good Z D β w h (h++[.row y.cells.length [y] 0]) [] (.ref h.length 1 0 0) ((execOp ρr o).run P w):=by
   intro y ar D7 aS
   simp at aS
   rw[R5]
   have fV:=dz x
   rw[ar]at fV
   exact⟨adv ay fV aS.1 (by rintro rfl;simp[ah.cells]at aS) (D7 (by simp)),fun o aC=>xc h _ _ o aC,by simp⟩
  split at ae
  ·split at ae
   ·rename_i elem U ax
    split at ae
    ·rename_i size J
     obtain⟨rfl,rfl⟩:=val ae
     have fV:=dz x
     rw[U]at fV
     have e:=fV.dN.fS.1
     rw[R5,e]
     exact YR ay (fun o e ad ag=>aw o e ad (by simp;omega))
    ·simp at ae
   ·split at ae
    ·rename_i aS
     obtain⟨rfl,rfl⟩:=val ae
     exact XD _ rfl (fun _=>iV (by simp)) aS
    ·simp at ae
  ·split at ae
   ·rename_i y xO U
    split at ae
    ·rename_i aS
     obtain⟨rfl,rfl⟩:=val ae
     have fV:=dz x
     rw[U]at fV
     rw[R5]
     exact⟨ahQ ay fV.dN aS,fun _ _=>rfl,bP _⟩
    ·simp at ae
   ·split at ae
    ·rename_i aS
     obtain⟨rfl,rfl⟩:=val ae
     exact XD _ rfl (fun _=>iV (by simp)) aS
    ·simp at ae
 | build t parts =>
  simp only[bj,aN]at ae
  obtain⟨ab,rfl⟩:=flag ae
  exact Good.sI ay (by simp only[execOp,aN]) (agr ab (afI dz parts)) b4
 | buildSlice t len parts =>
  simp only[bj,aN]at ae
  have jq:(cO pol f ρ o).getD []=[]:=by simp[cO,aN]
  rw[jq]
  split at ae
  ·rename_i elem ax
   split at ae
   ·rename_i size z J bl
    split at ae
    ·simp at ae
    ·rename_i af
     split at ae
     ·rename_i elems aI
      obtain⟨c,dT,tu,hlen,q9⟩:=ah8 (D:=D) (β:=β) (w:=w) (Z:=Z) ay ax J bl af aI (afI dz parts)
      have uS:(execOp ρr o).run P w=.ok (.value (.slice (some ⟨w.heap.size,0,none⟩) len len)) (w.alloc (.cells c elem (0,0))):=by
       simp only[execOp,aN,Sem.run_bind,dT,Result.andThen,Sem.run_pure]
      rw[uS]
      split at ae
      ·rename_i aq xO dI
       obtain⟨rfl,rfl⟩:=val ae
       have e:=zg dI
       subst e
       have aB:aq.length=len:=by simpa using hlen
       subst aB
       exact⟨adu ay tu,fun _ _=>rfl,bP _⟩
      ·obtain⟨rfl,rfl⟩:=val ae
       subst hlen
       exact⟨U3 (.refl D β w) ay tu (iV (by simp)) (bP _) (fun _=>rfl) (by omega) (fun o x aC=>by simp at aC),fun o aC=>xc h _ _ o aC,by simp⟩
     ·simp at ae
   ·simp at ae
  ·simp at ae
 | insert t m k x =>
  simp only[bj,aN]at ae
  have jq:(cO pol f ρ o).getD []=cl (ρ m):=by simp[cO,aN]
  rw[jq]at b4 ⊢
  split at ae
  ·rename_i bo J
   cases ae
   simp[nt]at az
   obtain⟨rfl,rfl⟩:=az
   have:=W5 (P:=P) ay J (dz m) (dz k) (dz x) b4
   simp only[execOp,aN]
   exact this
  ·simp at ae
 | load t a =>
  simp only[bj,aN]at ae
  obtain⟨ab,rfl⟩:=flag ae
  have jq:(cO pol f ρ o).getD []=cl (ρ a):=by simp[cO,aN]
  rw[jq]at b4 ⊢
  exact Good.sI ay (by simp only[execOp,aN]) (W4 ab (dz a) b4) b4
 | store t a x =>
  simp only[bj,aN]at ae
  have jq:(cO pol f ρ o).getD []=cl (ρ a):=by simp[cO,aN]
  rw[jq]at b4 ⊢
  split at ae
  ·rename_i bo J
   cases ae
   simp[nt]at az
   obtain⟨rfl,rfl⟩:=az
   have:=azd (P:=P) ay J (dz a) (asD (dz x)) b4
   simp only[execOp,aN]
   exact⟨this.1,this.2.1,by omega⟩
  ·simp at ae
 | nilCheck x =>
  simp only[bj,aN]at ae
  have fV:=dz x
  split at ae
  ·rename_i cs U
   obtain⟨rfl,rfl⟩:=val ae
   rw[U]at fV
   have gC:=fV.dN
   generalize iH:ρr x=cm at fV gC
   cases gC with
   | ip b off cs cR c af al=>exact Good.pY ay (by simp[execOp,aN,iH]) fV b4
  ·rename_i g a b U
   obtain⟨rfl,rfl⟩:=val ae
   rw[U]at fV
   have gC:=fV.dN
   generalize iH:ρr x=cm at fV gC
   cases gC with
   | fn=>exact Good.pY ay (by simp[execOp,aN,iH]) fV b4
  ·rename_i cC e i k U
   obtain⟨rfl,rfl⟩:=val ae
   rw[U]at fV
   generalize iH:ρr x=cm at fV
   cases fV with
   | ref _ _ _ _ b bg ab=>exact Good.pY ay (by simp[execOp,aN,iH]) (.ref _ _ _ _ b bg ab) b4
  ·rename_i g a b U
   obtain⟨rfl,rfl⟩:=val ae
   rw[U]at fV
   generalize iH:ρr x=cm at fV
   cases fV with
   | fn _ cb bS _ _ ad ag aJ bL=>exact Good.pY ay (by simp[execOp,aN,iH]) (.fn _ cb bS _ _ ad ag aJ bL) b4
  ·rename_i cC U
   obtain⟨rfl,rfl⟩:=val ae
   rw[U]at fV
   generalize iH:ρr x=cm at fV
   cases fV with
   | bF _ b bg ab=>exact Good.pY ay (by simp[execOp,aN,iH]) (.bF _ b bg ab) b4
  ·simp at ae
 | binOp op t x y cA =>
  simp only[bj,aN]at ae
  obtain⟨ab,rfl⟩:=flag ae
  exact Good.sI ay (by simp only[execOp,aN]) (agq ab (dz x) (dz y)) b4
 | unOp op t x =>
  simp only[bj,aN]at ae
  split at ae
  ·rename_i a U
   have fV:=dz x
   rw[U]at fV
   have e:=fV.dN.fS.1
   split at ae
   ·rename_i nq k1
    split at ae
    ·rename_i ck
     obtain⟨rfl,rfl⟩:=val ae
     exact Good.sI ay (by simp only[execOp,aN];rw[e]) ⟨nq,Vu k1 w,.t _ _ (pc ck)⟩ b4
    ·simp at ae
   ·simp at ae
  ·simp at ae
 | convert s t x =>
  simp only[bj,aN]at ae
  split at ae
  ·rename_i a U
   have fV:=dz x
   rw[U]at fV
   have e:=fV.dN.fS.1
   split at ae
   ·rename_i nq k1
    split at ae
    ·rename_i ck
     obtain⟨rfl,rfl⟩:=val ae
     exact Good.sI ay (by simp only[execOp,aN];rw[e]) ⟨nq,Vu k1 w,.t _ _ (pc ck)⟩ b4
    ·simp at ae
   ·simp at ae
  ·rename_i c k y ys U
   have fV:=dz x
   rw[U]at fV
   cases Hf:N6 P s t (y::ys)with
   | none=>rw[Hf]at ae;simp at ae
   | some Dm =>
    rw[Hf]at ae
    obtain⟨rfl,rfl⟩:=val ae
    obtain⟨l,rfl,dT⟩:=azt Hf fV.dN
    exact Good.sI ay (by simp only[execOp,aN]) ⟨_,dT,.t _ _ (.aA _ rfl)⟩ b4
  ·simp at ae
 | makeFunc fn first captured =>
  simp only[bj,aN]at ae
  have dT:(execOp ρr o).run P w=.ok (.value (.func fn (first.map ρr) (captured.map ρr))) w:=by simp[execOp,aN,Instr.makeFunc]
  split at ae
  ·rename_i a b xz kW
   obtain⟨rfl,rfl⟩:=val ae
   have aT:=zg xz
   have aW:=zg kW
   refine Good.pY ay dT (.t _ _ (.fn fn _ _ a b ?_ ?_ (fun i v t az ax=>?_) (fun i v t az ax=>?_))) b4
   ·have:=congrArg List.length aT;simpa using this
   ·have:=congrArg List.length aW;simpa using this
   ·exact(Nz dz first i v (.t t) az (by rw[aT];simp[ax])).dN
   ·exact(Nz dz captured i v (.t t) az (by rw[aW];simp[ax])).dN
  ·obtain⟨rfl,rfl⟩:=val ae
   exact Good.pY ay dT (.fn fn _ _ _ _ (by simp) (by simp) (fun i v t az ax=>Nz dz first i v t az ax) (fun i v t az ax=>Nz dz captured i v t az ax)) b4
 | makeMap t res =>
  cases res with
  | some _=>simp[bj,aN]at ae
  | none =>
   simp only[bj,aN]at ae
   obtain⟨rfl,rfl⟩:=val ae
   have jq:(cO pol f ρ o).getD []=[]:=by simp[cO,aN]
   rw[jq]
   have dT:(execOp ρr o).run P w=.ok (.value (.map (some w.heap.size))) (w.alloc (.map #[] 0)):=by
    simp only[execOp,aN,Instr.makeMap,newObj];rfl
   rw[dT]
   have f1:hd (ep [] h (h++[.map []])) D β w D β (w.alloc (.map #[] 0)):=Bi ay _
   have f2:hd (ep [] h (h++[.map []])) D β (w.alloc (.map #[] 0)) D (kR β h.length 0 w.heap.size 0) (w.alloc (.map #[] 0)):=DJ (.inr ⟨bP _,by simp⟩) (iV (by simp) 0)
   have cg:er Z D β (w.alloc (.map #[] 0)):=ay.alloc _ (by simp)
   have c5:=cg.kR (o:=h.length) (e:=0) (b:=w.heap.size) (k:=0) ay.jS (by simp) (fun cC bs bg ab=>by have:=(ay.blt _ _ _ _ ab).2;omega) (fun ds U=>by rw[heap_alloc_new]at U;cases U)
   refine⟨⟨_,_,D,_,rfl,.mp _ _ 0 (xd β h.length 0 w.heap.size 0),f1.trans f2,c5,fun cC y gv ar=>?_,Bc (by simp)⟩,fun o aC=>xc h _ _ o aC,by simp⟩
   rcases gv with gv|⟨ad,ag⟩
   ·simp at gv
   ·have e:cC=h.length:=by simp at ag;omega
    subst e
    rw[K7]at ar
    cases ar
    intro e b k ab
    rcases vC ab with⟨_,rfl,ar⟩|⟨ab,_⟩
    ·cases ar
     exact⟨rfl,fun cR=>by have:=ay.hV _ cR;omega,#[],0,heap_alloc_new _,rfl,⟨by simp,by simp⟩,by simp⟩
    ·rw[iV (by simp)]at ab;cases ab
 | makeSlice t l c =>
  simp only[bj,aN]at ae
  have jq:(cO pol f ρ o).getD []=[]:=by simp[cO,aN]
  rw[jq]
  split at ae
  ·rename_i elem ax
   split at ae
   ·rename_i size bytes z n m J ab bl ao af
    split at ae
    ·rename_i zy
     obtain⟨Dv,dT,tu,q9⟩:=ato (Z:=Z) ay ax J ab bl ao af (dz l) (dz c) zy
     split at ae
     ·split at ae
      ·rename_i RM
       subst RM
       obtain⟨rfl,rfl⟩:=val ae
       have uS:(execOp ρr o).run P w=.ok (.value (.slice (some ⟨w.heap.size,0,none⟩) n n)) (w.alloc (.cells Dv elem (0,0))):=by
        simp only[execOp,aN,Sem.run_bind,dT,Result.andThen,Sem.run_pure]
       rw[uS]
       have ang:iP D β w size Dv ((List.replicate n z).map .t):=by simpa using tu
       have aF:=adu (Z:=Z) (h:=ai) (ty:=elem) ay ang
       simp only[ic]at aF
       exact⟨aF,fun _ _=>rfl,bP _⟩
      ·simp at ae
     obtain⟨rfl,rfl⟩:=val ae
     have uS:(execOp ρr o).run P w=.ok (.value (.slice (some ⟨w.heap.size,0,none⟩) n m)) (w.alloc (.cells Dv elem (0,0))):=by
      simp only[execOp,aN,Sem.run_bind,dT,Result.andThen,Sem.run_pure]
     rw[uS]
     have aF:=U3 (Z:=Z) (h:=h) (ty:=elem) (cap:=m) (clip:=decide (n=m)) (tch:=[]) (.refl D β w) ay tu (iV (by simp)) (by simpa using zy.2.2.2.1) (by simp;omega) (by rw[q9];exact bP _) (fun o x aC=>by simp at aC)
     simp only[ic]at aF
     exact⟨aF,fun o aC=>xc h _ _ o aC,by simp⟩
    ·simp at ae
   ·simp at ae
  ·simp at ae
 | slice t x lo hi gM =>
  simp only[bj,aN]at ae
  obtain⟨ab,rfl⟩:=flag ae
  exact Good.sI ay (by simp only[execOp,aN]) (agE ab (dz x) (Vh dz lo) (Vh dz hi) (Vh dz gM)) b4
 | fieldAddr s x qc =>
  simp only[bj,aN]at ae
  obtain⟨ab,rfl⟩:=flag ae
  exact Good.sI ay (by simp only[execOp,aN]) (agw ab (dz x)) b4
 | field s x qc =>
  simp only[bj,aN]at ae
  split at ae
  ·rename_i t off aI kG
   obtain⟨ab,rfl⟩:=flag ae
   exact Good.sI ay (by simp only[execOp,aN]) (agx aI kG ab (dz x)) b4
  ·simp at ae
 | indexAddr t x ix =>
  simp only[bj,aN]at ae
  obtain⟨ab,rfl⟩:=flag ae
  exact Good.sI ay (by simp only[execOp,aN]) (agy ab (dz x) (dz ix)) b4
 | index t x ix =>
  simp only[bj,aN]at ae
  obtain⟨ab,rfl⟩:=flag ae
  exact Good.sI ay (by simp only[execOp,aN]) (agz ab (dz x) (dz ix)) b4
 | lookup t x ix ok =>
  simp only[bj,aN]at ae
  obtain⟨ab,rfl⟩:=flag ae
  have jq:(cO pol f ρ o).getD []=cl (ρ x):=by simp[cO,aN]
  rw[jq]at b4 ⊢
  exact Good.sI ay (by simp only[execOp,aN]) (agB ab (dz x) (dz ix) b4) b4
 | mapUpdate t m k x =>
  simp only[bj,aN]at ae
  have jq:(cO pol f ρ o).getD []=cl (ρ m):=by simp[cO,aN]
  rw[jq]at b4 ⊢
  split at ae
  ·rename_i bo J
   cases ae
   simp[nt]at az
   obtain⟨rfl,rfl⟩:=az
   have:=W5 (P:=P) ay J (dz m) (dz k) (dz x) b4
   simp only[execOp,aN]
   exact this
  ·simp at ae
 | extract x i =>
  simp only[bj,aN]at ae
  have fV:=dz x
  split at ae
  ·rename_i vs U
   split at ae
   ·rename_i y ar
    obtain⟨rfl,rfl⟩:=val ae
    rw[U]at fV
    have gC:=fV.dN
    generalize iH:ρr x=cm at fV gC
    cases gC with
    | ch cs _ ao al =>
     have hi:i<cs.size:=by rw[ao];exact(cD.1 ar).1
     have Hj:cs[i]? = some cs[i]:=by simp[hi]
     exact Good.pY ay (by simp[execOp,aN,iH,Instr.extract,Hj,Result.andThen]) (.t _ _ (al i _ y Hj ar)) b4
   ·simp at ae
  ·rename_i vs U
   obtain⟨ab,rfl⟩:=flag ae
   rw[U]at fV
   generalize iH:ρr x=cm at fV
   cases fV with
   | ch cs _ ao al =>
    have hi:i<cs.size:=by rw[ao];exact(cD.1 ab).1
    have Hj:cs[i]? = some cs[i]:=by simp[hi]
    exact Good.pY ay (by simp[execOp,aN,iH,Instr.extract,Hj,Result.andThen]) (al i _ v Hj ab) b4
  ·simp at ae
 | call c =>
  cases af:c.callee with
  | builtin b =>
   simp only[bj,aN,af]at ae
   exact ah9 aN af ae az ay dz aw b4
  | value g =>
   simp only[bj,aN,af]at ae
   exfalso
   unfold nH Dt at ae
   split at ae
   ·split at ae
    ·cases ae;simp[nt]at az
    ·simp at ae
   ·split at ae
    ·cases ae;simp[nt]at az
    ·simp at ae
   ·cases ae;simp[nt]at az
   ·simp at ae
  | invoke a b=>simp[bj,aN,af]at ae
 | ready _=>simp[bj,aN]at ae
 | waits _=>simp[bj,aN]at ae
 | sliceToArrayPointer _ _=>simp[bj,aN]at ae
 | makeInterface _ _=>simp[bj,aN]at ae
 | makeChan _ _=>simp[bj,aN]at ae
 | mapEntry _ _ _=>simp[bj,aN]at ae
 | entryStore _ _ _ _=>simp[bj,aN]at ae
 | range _ _=>simp[bj,aN]at ae
 | next _ _=>simp[bj,aN]at ae
 | entry _=>simp[bj,aN]at ae
 | typeAssert _ _ _ _=>simp[bj,aN]at ae
 | go _=>simp[bj,aN]at ae
 | defer _=>simp[bj,aN]at ae
 | panic _=>simp[bj,aN]at ae
 | send _ _=>simp[bj,aN]at ae
 | recv _ _ _=>simp[bj,aN]at ae
 | select _ _=>simp[bj,aN]at ae
end Go.Abs
