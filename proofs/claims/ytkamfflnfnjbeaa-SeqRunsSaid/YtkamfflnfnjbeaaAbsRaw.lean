/- The operations that are not worked out ahead, each by the shape of its text; calls that run in the caller's heap. -/
import Derived.Test.YtkamfflnfnjbeaaAbsLoop
set_option linter.unusedVariables false
set_option linter.unusedSimpArgs false
namespace Go.Abs
open Go

variable {P : Program} {pol : Pol} {K : Oracle} {I : Inl} {f : FuncId} {n : Nat} {e : FEnv} {h : Heap} {o : Oper}

theorem nc0 : ((0 : Nat) : Int) = 0 := (fun x => x) rfl
theorem nc1 : ((1 : Nat) : Int) = 1 := (fun x => x) rfl
theorem ncOf {n : Nat} : (Nat.cast (no_index (OfNat.ofNat n)) : Int) = OfNat.ofNat n := (fun x => x) rfl
theorem bits_i64 : IntKind.i64.bits = 64 := (fun x => x) rfl
theorem bits_u64 : IntKind.u64.bits = 64 := (fun x => x) rfl
theorem bits_u8 : IntKind.u8.bits = 8 := (fun x => x) rfl
theorem bits_u16 : IntKind.u16.bits = 16 := (fun x => x) rfl
theorem bits_u32 : IntKind.u32.bits = 32 := (fun x => x) rfl
theorem bits_i32 : IntKind.i32.bits = 32 := (fun x => x) rfl
def i64or (x y : Int) : Int := IntKind.i64.wrap ((BitVec.ofInt 64 x ||| BitVec.ofInt 64 y).toNat : Nat)
def i64and (x y : Int) : Int := IntKind.i64.wrap ((BitVec.ofInt 64 x &&& BitVec.ofInt 64 y).toNat : Nat)
def i64xor (x y : Int) : Int := IntKind.i64.wrap ((BitVec.ofInt 64 x ^^^ BitVec.ofInt 64 y).toNat : Nat)
def u64or (x y : Int) : Int := IntKind.u64.wrap ((BitVec.ofInt 64 x ||| BitVec.ofInt 64 y).toNat : Nat)
def u64and (x y : Int) : Int := IntKind.u64.wrap ((BitVec.ofInt 64 x &&& BitVec.ofInt 64 y).toNat : Nat)
def u64xor (x y : Int) : Int := IntKind.u64.wrap ((BitVec.ofInt 64 x ^^^ BitVec.ofInt 64 y).toNat : Nat)
def u64andNot (x y : Int) : Int := IntKind.u64.wrap ((BitVec.ofInt 64 x &&& ~~~ BitVec.ofInt 64 y).toNat : Nat)
theorem bin_or_i64 {bl : Bool} {x y : Int} : iBin .or bl (.t (.sc (.int .i64 x))) (.t (.sc (.int .i64 y))) = some (.t (.sc (.int .i64 (i64or x y)))) := (fun x => x) rfl
theorem bin_and_i64 {bl : Bool} {x y : Int} : iBin .and bl (.t (.sc (.int .i64 x))) (.t (.sc (.int .i64 y))) = some (.t (.sc (.int .i64 (i64and x y)))) := (fun x => x) rfl
theorem bin_xor_i64 {bl : Bool} {x y : Int} : iBin .xor bl (.t (.sc (.int .i64 x))) (.t (.sc (.int .i64 y))) = some (.t (.sc (.int .i64 (i64xor x y)))) := (fun x => x) rfl
theorem bin_or_u64 {bl : Bool} {x y : Int} : iBin .or bl (.t (.sc (.int .u64 x))) (.t (.sc (.int .u64 y))) = some (.t (.sc (.int .u64 (u64or x y)))) := (fun x => x) rfl
theorem bin_and_u64 {bl : Bool} {x y : Int} : iBin .and bl (.t (.sc (.int .u64 x))) (.t (.sc (.int .u64 y))) = some (.t (.sc (.int .u64 (u64and x y)))) := (fun x => x) rfl
theorem bin_xor_u64 {bl : Bool} {x y : Int} : iBin .xor bl (.t (.sc (.int .u64 x))) (.t (.sc (.int .u64 y))) = some (.t (.sc (.int .u64 (u64xor x y)))) := (fun x => x) rfl
theorem bin_andNot_u64 {bl : Bool} {x y : Int} : iBin .andNot bl (.t (.sc (.int .u64 x))) (.t (.sc (.int .u64 y))) = some (.t (.sc (.int .u64 (u64andNot x y)))) := (fun x => x) rfl
/-- The low bits of a number, put in by or. -/
theorem or_low {c x : Int} (h1 : 0 ≤ c) (h2 : c < 4294967296) (h3 : 0 ≤ x) (h4 : x < 256) : i64or (c * 256) x = c * 256 + x := by
  unfold i64or
  obtain ⟨c, rfl⟩ := Int.eq_ofNat_of_zero_le h1
  obtain ⟨x, rfl⟩ := Int.eq_ofNat_of_zero_le h3
  have e1 : BitVec.ofInt 64 ((c : Int) * 256) = BitVec.ofNat 64 (c * 256) := by
    have : ((c : Int) * 256) = ((c * 256 : Nat) : Int) := by simp
    rw [this, BitVec.ofInt_natCast]
  have e2 : (BitVec.ofNat 64 (c * 256) ||| BitVec.ofNat 64 x).toNat = c * 256 + x := by
    rw [BitVec.toNat_or, BitVec.toNat_ofNat, BitVec.toNat_ofNat, Nat.mod_eq_of_lt (by omega), Nat.mod_eq_of_lt (by omega)]
    have := Nat.shiftLeft_add_eq_or_of_lt (i := 8) (b := x) (by omega) c
    rw [Nat.shiftLeft_eq] at this
    exact this.symm
  rw [e1, BitVec.ofInt_natCast, e2, wrap_i64 (by omega) (by omega)]
  simp
theorem nil_ip {cs : List T} : iNil (.t (.ip cs)) = some (.t (.ip cs)) := (fun x => x) rfl
theorem nil_ref {o q i k : Nat} : iNil (.ref o q i k) = some (.ref o q i k) := (fun x => x) rfl
theorem nil_fn {g : FuncId} {a b : List T} : iNil (.t (.fn (.func g) a b)) = some (.t (.fn (.func g) a b)) := (fun x => x) rfl
theorem nil_fn' {g : FuncId} {a b : List AV} : iNil (.fn (.func g) a b) = some (.fn (.func g) a b) := (fun x => x) rfl
theorem nil_yl {o : Nat} : iNil (.yl o) = some (.yl o) := (fun x => x) rfl
theorem bne_tt : (true != true) = false := (fun x => x) rfl
theorem bne_ff : (false != false) = false := (fun x => x) rfl
theorem bne_tf : (true != false) = true := (fun x => x) rfl
theorem bne_ft : (false != true) = true := (fun x => x) rfl
theorem beq_tt : (true == true) = true := (fun x => x) rfl
theorem beq_ff : (false == false) = true := (fun x => x) rfl
theorem beq_tf : (true == false) = false := (fun x => x) rfl
theorem beq_ft : (false == true) = false := (fun x => x) rfl
theorem bne_xt {b : Bool} : (b != true) = !b := by cases b <;> rfl
theorem bne_xf {b : Bool} : (b != false) = b := by cases b <;> rfl
theorem bne_tx {b : Bool} : (true != b) = !b := by cases b <;> rfl
theorem bne_fx {b : Bool} : (false != b) = b := by cases b <;> rfl
theorem bne_xx {b : Bool} : (b != b) = false := by cases b <;> rfl
theorem beq_xt {b : Bool} : (b == true) = b := by cases b <;> rfl
theorem beq_xf {b : Bool} : (b == false) = !b := by cases b <;> rfl
theorem rho_tmp {t : Nat} : rhoF pol e (.tmp t) = e t := (fun x => x) rfl

/-! Equality of structs and arrays -/
def eqR (neg : Bool) : Option Bool → Option AV
  | some b => some (.t (.sc (.bool (if neg then !b else b))))
  | none => none
theorem eqR_eq {b : Bool} : eqR false (some b) = some (.t (.sc (.bool b))) := (fun x => x) rfl
theorem eqR_ne {b : Bool} : eqR true (some b) = some (.t (.sc (.bool !b))) := (fun x => x) rfl
def eqV (P : Program) (neg : Bool) (t : TypeId) (x y : AV) : Option AV := eqR neg (aEq P t x y)
theorem eqV_app {neg : Bool} {t : TypeId} {x y : AV} : eqV P neg t x y = eqR neg (aEq P t x y) := (fun x => x) rfl
def binE (P : Program) (neg : Bool) (t : TypeId) (ox oy : Operand) (x y : AV) : Option AV := aBin P (if neg then .neq else .eql) t ox oy x y
theorem raw_eql {t : TypeId} {x y : Operand} {s : TypeId} (ho : o.op = .binOp .eql t x y s) : iStep P pol f e h (.raw o) = vOf h (binE P false t x y (rhoF pol e x) (rhoF pol e y)) := by
  show aOp P pol f (rhoF pol e) h o = _
  simp only [aOp, ho, vOf, binE]
  rfl
theorem raw_neq {t : TypeId} {x y : Operand} {s : TypeId} (ho : o.op = .binOp .neq t x y s) : iStep P pol f e h (.raw o) = vOf h (binE P true t x y (rhoF pol e x) (rhoF pol e y)) := by
  show aOp P pol f (rhoF pol e) h o = _
  simp only [aOp, ho, vOf, binE]
  rfl
theorem binE_agg {neg : Bool} {t : TypeId} {ox oy : Operand} {xs ys : List T} : binE P neg t ox oy (.t (.agg xs)) (.t (.agg ys)) = eqV P neg t (.t (.agg xs)) (.t (.agg ys)) := by
  cases neg
  · simp only [binE, aBin, eqV, eqR, Bool.false_eq_true, if_false]
    cases aEq P t (.t (.agg xs)) (.t (.agg ys)) <;> rfl
  · simp only [binE, aBin, eqV, eqR, if_true]
    cases aEq P t (.t (.agg xs)) (.t (.agg ys)) <;> rfl

def slB (neg : Bool) (b c : Bool) : Option AV := if c then some (.t (.sc (.bool (if neg then !b else b)))) else none
theorem slB_eq {b : Bool} : slB false b true = some (.t (.sc (.bool b))) := (fun x => x) rfl
theorem slB_ne {b : Bool} : slB true b true = some (.t (.sc (.bool !b))) := (fun x => x) rfl
theorem binE_slc {neg : Bool} {t : TypeId} {ox oy : Operand} {c : Bool} {k : Nat} {x : T} {xs : List T} : binE P neg t ox oy (.t (.sl c k (x :: xs))) (.t (.sc (.slice none 0 0))) = slB neg false (isSliceT P t) := by
  cases neg <;> simp only [binE, aBin, aEq, slB, Bool.false_eq_true, if_false, if_true] <;> cases isSliceT P t <;> rfl
theorem binE_nil {neg : Bool} {t : TypeId} {ox oy : Operand} : binE P neg t ox oy (.t (.sc (.slice none 0 0))) (.t (.sc (.slice none 0 0))) = slB neg true (isSliceT P t) := by
  cases neg <;> simp only [binE, aBin, aEq, slB, Bool.false_eq_true, if_false, if_true] <;> cases isSliceT P t <;> rfl
theorem binE_msn {neg : Bool} {t : TypeId} {ox oy : Operand} {c : Bool} {o q i l k : Nat} : binE P neg t ox oy (.ms o q i (l + 1) k c) (.t (.sc (.slice none 0 0))) = slB neg false (isSliceT P t) := by
  cases neg <;> simp only [binE, aBin, aEq, slB, Bool.false_eq_true, if_false, if_true] <;> cases isSliceT P t <;> rfl

/-! Making slices and maps -/
def mkSl (size bytes : Nat) (z : T) (h : Heap) : Option Nat → Option Nat → Option Res
  | some n, some m => if n ≤ m ∧ bytes * m ≤ roomB ∧ m ≤ 9223372036854775807 then some (.val (.ms h.length n 0 n size (decide (n = m))) (h ++ [.row size (List.replicate n (.t z)) 0])) else none
  | _, _ => none
theorem mkSl_app {size bytes n m : Nat} {z : T} : mkSl size bytes z h (some n) (some m) = if n ≤ m ∧ bytes * m ≤ roomB ∧ m ≤ 9223372036854775807 then some (.val (.ms h.length n 0 n size (decide (n = m))) (h ++ [.row size (List.replicate n (.t z)) 0])) else none := (fun x => x) rfl
theorem raw_makeSlice {t elem : TypeId} {l c : Operand} {size bytes : Nat} {z : T} (ho : o.op = .makeSlice t l c) (ht : typ P t = some (.slice elem)) (hs : szOf P elem = some size) (hb : byOf P elem = some bytes) (hz : zeroOf P elem = some z)
    (h1 : (decide (size ≠ 0) && decide ((AV.t z).cells.length = size) && storableAll (AV.t z).cells) = true) : iStep P pol f e h (.raw o) = mkSl size bytes z h (asNat (rhoF pol e l)) (asNat (rhoF pol e c)) := by
  simp only [Bool.and_eq_true, decide_eq_true_eq] at h1
  show aOp P pol f (rhoF pol e) h o = _
  simp only [aOp, ho, ht, hs, hb, hz]
  cases asNat (rhoF pol e l) with
  | none => rfl
  | some n =>
    cases asNat (rhoF pol e c) with
    | none => rfl
    | some m => simp only [mkSl, h1.1.1, h1.1.2, h1.2, ne_eq, not_false_eq_true, true_and]
theorem raw_makeMap {t : TypeId} (ho : o.op = .makeMap t none) : iStep P pol f e h (.raw o) = some (.val (.mp h.length) (h ++ [.map []])) := by
  show aOp P pol f (rhoF pol e) h o = _
  simp only [aOp, ho]

/-! Copying -/
def cpB (size e i len k o : Nat) (xs : List AV) (h : Heap) : Option AObj → Option Res
  | some (.row k2 elems mr) => if e = elems.length ∧ i + len ≤ e ∧ k = size ∧ k2 = size ∧ mr ≤ e then
      some (.val (.t (.sc (.int .i64 (min xs.length len : Nat)))) (h.set o (.row size (elems.take i ++ xs.take (min xs.length len) ++ elems.drop (i + min xs.length len)) e))) else none
  | _ => none
def cpD (size : Nat) (xs : List AV) (h : Heap) : AV → Option Res
  | .ms o e i len k _ => cpB size e i len k o xs h (h[o]?)
  | .t (.sc (.slice none 0 0)) => some (.val (.t (.sc (.int .i64 0))) h)
  | .t (.sl _ _ []) => some (.val (.t (.sc (.int .i64 0))) h)
  | _ => none
def cpA (size : Nat) (d : AV) (h : Heap) : Option (List AV) → Option Res
  | some xs => cpD size xs h d
  | none => none
theorem cpA_some {size : Nat} {d : AV} {xs : List AV} : cpA size d h (some xs) = cpD size xs h d := (fun x => x) rfl
theorem cpD_ms {size o e i len k : Nat} {c : Bool} {xs : List AV} : cpD size xs h (.ms o e i len k c) = cpB size e i len k o xs h (h[o]?) := (fun x => x) rfl
/-- The whole of a slice over the whole of another one. -/
theorem cpB_full {size n o mr : Nat} {xs elems : List AV} (he : elems.length = n) (hx : xs.length = n) (hm : mr ≤ n) : cpB size n 0 n size o xs h (some (.row size elems mr)) = some (.val (.t (.sc (.int .i64 (n : Nat)))) (h.set o (.row size xs n))) := by
  subst he
  simp only [cpB, Nat.zero_add, Nat.le_refl, hm, and_self, if_true, hx, Nat.min_self, List.take_zero, List.nil_append]
  rw [List.take_of_length_le (by omega), List.drop_of_length_le (by omega), List.append_nil]
def copyOf (o : Oper) : Option (List Operand × List TypeId) := match o.op with
  | .call c => match c.callee with
    | .builtin .copy => some (c.args.toList, c.argTypes.toList)
    | _ => none
  | _ => none
theorem copyOf_some {a : List Operand} {b : List TypeId} (h : copyOf o = some (a, b)) : ∃ c : Call, o.op = .call c ∧ c.callee = .builtin .copy ∧ c.args.toList = a ∧ c.argTypes.toList = b := by
  unfold copyOf at h
  split at h
  · rename_i c hc
    split at h
    · rename_i hb
      simp only [Option.some.injEq, Prod.mk.injEq] at h
      exact ⟨c, hc, hb, h.1, h.2⟩
    · exact (by cases h)
  · exact (by cases h)
theorem raw_copy {t elem : TypeId} {ts : List TypeId} {x y : Operand} {size : Nat} (hco : copyOf o = some ([x, y], t :: ts)) (ht : typ P t = some (.slice elem)) (hs : szOf P elem = some size) (h0 : decide (size ≠ 0) = true) :
    iStep P pol f e h (.raw o) = cpA size (rhoF pol e x) h (elemsOf h size (rhoF pol e y)) := by
  obtain ⟨c, ho, hc, ha, hat⟩ := copyOf_some hco
  have h0' : ¬ size = 0 := of_decide_eq_true h0
  show aOp P pol f (rhoF pol e) h o = _
  simp only [aOp, ho, hc, ha, hat, List.map_cons, List.map_nil, aBuiltin, aCopy, ht, hs]
  cases elemsOf h size (rhoF pol e y) with
  | none => rfl
  | some xs =>
    simp only [cpA, h0', if_false]
    generalize rhoF pol e x = d
    unfold cpD
    cases d with
    | ms o i0 i len k cl =>
      simp only
      unfold cpB
      cases h[o]? with
      | none => rfl
      | some y =>
        cases y with
        | row k2 elems mr =>
          by_cases hq : i0 = elems.length ∧ i + len ≤ i0 ∧ k = size ∧ k2 = size ∧ mr ≤ i0
          · simp only [if_pos hq]
          · simp only [if_neg hq]
        | _ => rfl
    | t v =>
      cases v with
      | sc v => cases v with
        | slice a b c => cases a with
          | none => cases b with
            | zero => cases c <;> rfl
            | succ b => rfl
          | some a => rfl
        | _ => rfl
      | sl c k l => cases l <;> rfl
      | _ => rfl
    | _ => rfl

/-! A struct whose slices grow -/
def grS (l : List (Nat × Nat)) (h : Heap) : Option (List AV) → Option Res
  | some cs => if storableAll cs then some (.val (.ref (h.length + l.length) 1 0 0) (h ++ (growRows l ++ [.row cs.length [.agg cs] 0]))) else none
  | none => none
theorem grS_some {l : List (Nat × Nat)} {cs : List AV} : grS l h (some cs) = if storableAll cs then some (.val (.ref (h.length + l.length) 1 0 0) (h ++ (growRows l ++ [.row cs.length [.agg cs] 0]))) else none := (fun x => x) rfl
def grB (n off s : Nat) (r : List (Nat × Nat)) (cs : List AV) : Option AV → Option (List AV)
  | some (.t (.sc (.slice none 0 0))) => growAV (n + 1) r (cs.set off (.ms n 0 0 0 s false))
  | _ => none
theorem grB_nil {n off s : Nat} {r : List (Nat × Nat)} {cs : List AV} : grB n off s r cs (some (.t (.sc (.slice none 0 0)))) = growAV (n + 1) r (cs.set off (.ms n 0 0 0 s false)) := (fun x => x) rfl
theorem gAV_nil {n : Nat} {cs : List AV} : growAV n [] cs = some cs := (fun x => x) rfl
theorem gAV_cons {n off s : Nat} {r : List (Nat × Nat)} {cs : List AV} : growAV n ((off, s) :: r) cs = grB n off s r cs (cs[off]?) := by
  simp only [growAV, grB]
  split <;> simp_all
theorem gR_nil : growRows [] = [] := (fun x => x) rfl
theorem gR_cons {off s : Nat} {r : List (Nat × Nat)} : growRows ((off, s) :: r) = .row s [] 0 :: growRows r := (fun x => x) rfl
def growT (P : Program) (t : TypeId) : Option (List (Nat × Nat)) := match typ P t with
  | some (.struct fields) => growL P fields.toList
  | _ => none
theorem raw_allocS {t : TypeId} {zs : List T} {l : List (Nat × Nat)} (ho : o.op = .alloc t) (hg : pol.grow f (o.dst.getD 0) = true) (hz : zeroOf P t = some (.agg zs)) (hl : growT P t = some l) :
    iStep P pol f e h (.raw o) = grS l h (growAV h.length l (zs.map .t)) := by
  show aOp P pol f (rhoF pol e) h o = _
  unfold growT at hl
  split at hl
  · rename_i fields ht
    simp only [aOp, ho, hg, if_true, hz, ht, hl]
    cases growAV h.length l (zs.map .t) <;> rfl
  · cases hl

/-! The number of a map's entries; copies -/
def lenM : Option AObj → Option AV
  | some (.map es) => some (.t (.sc (.int .i64 es.length)))
  | _ => none
def lenMV (h : Heap) : AV → Option AV
  | .mp o => lenM (h[o]?)
  | _ => none
theorem lenM_map {es : List (Value × AV)} : lenM (some (.map es)) = some (.t (.sc (.int .i64 es.length))) := (fun x => x) rfl
theorem lenMV_mp {o : Nat} : lenMV h (.mp o) = lenM (h[o]?) := (fun x => x) rfl
def lenArg (o : Oper) : Option (List Operand × List TypeId) :=
  match o.op with
  | .call c => match c.callee with
    | .builtin .len => some (c.args.toList, c.argTypes.toList)
    | _ => none
  | _ => none
theorem lenArg_some {a : List Operand} {b : List TypeId} (h : lenArg o = some (a, b)) : ∃ c, o.op = .call c ∧ c.callee = .builtin .len ∧ c.args.toList = a ∧ c.argTypes.toList = b := by
  unfold lenArg at h
  split at h
  · rename_i c hc
    split at h
    · rename_i hb
      simp only [Option.some.injEq, Prod.mk.injEq] at h
      exact ⟨c, hc, hb, h.1, h.2⟩
    · exact (by cases h)
  · exact (by cases h)
theorem raw_lenM {t kt et : TypeId} {x : Operand} (hl : lenArg o = some ([x], [t])) (ht : typ P t = some (.map kt et)) :
    iStep P pol f e h (.raw o) = vOf h (lenMV h (rhoF pol e x)) := by
  obtain ⟨c, ho, hc, ha, hat⟩ := lenArg_some hl
  show aOp P pol f (rhoF pol e) h o = _
  simp only [aOp, ho, hc, ha, hat, List.map_cons, List.map_nil, aBuiltin, ht, vOf]
  cases rhoF pol e x with
  | mp m =>
    simp only [lenMV]
    cases h[m]? with
    | none => rfl
    | some y => cases y <;> rfl
  | _ => rfl

/-! Maps -/
def lkV (P : Program) (t : TypeId) (ok : Bool) (h : Heap) (x ix : AV) : Option AV := aLookup P t x ix ok h
theorem raw_lookup {t : TypeId} {x ix : Operand} {ok : Bool} (ho : o.op = .lookup t x ix ok) : iStep P pol f e h (.raw o) = vOf h (lkV P t ok h (rhoF pol e x) (rhoF pol e ix)) := by
  show aOp P pol f (rhoF pol e) h o = _
  simp only [aOp, ho, vOf, lkV]
  rfl
def upV (P : Program) (t : TypeId) (h : Heap) (m k x : AV) : Option Heap := aMapSet P t m k x h
theorem raw_update {t : TypeId} {m k x : Operand} (ho : o.op = .mapUpdate t m k x) : iStep P pol f e h (.raw o) = hOf (upV P t h (rhoF pol e m) (rhoF pol e k) (rhoF pol e x)) := by
  show aOp P pol f (rhoF pol e) h o = _
  simp only [aOp, ho, hOf, upV]
  rfl
theorem raw_insert {t : TypeId} {m k x : Operand} (ho : o.op = .insert t m k x) : iStep P pol f e h (.raw o) = hOf (upV P t h (rhoF pol e m) (rhoF pol e k) (rhoF pol e x)) := by
  show aOp P pol f (rhoF pol e) h o = _
  simp only [aOp, ho, hOf, upV]
  rfl

/-! Calls whose arguments are read as trees -/
def kP (h : Heap) : Option T → Option (AV × Heap)
  | some r => if r.plain then some (.t r, h) else none
  | none => none
def callS (K : Oracle) (I : Inl) (g : FuncId) (args : List AV) (h : Heap) : Option (List T) → Option (AV × Heap)
  | some ts => kP h (K g ts)
  | none => I (.fn g) args h
theorem kP_some {r : T} : kP h (some r) = if r.plain then some (.t r, h) else none := (fun x => x) rfl
theorem callS_some {g : FuncId} {args : List AV} {ts : List T} : callS K I g args h (some ts) = kP h (K g ts) := (fun x => x) rfl
theorem callS_none {g : FuncId} {args : List AV} : callS K I g args h none = I (.fn g) args h := (fun x => x) rfl
theorem callT_none {g : FuncId} {args : List AV} : callT K I g args h none = callS K I g args h (mapO (snap h allObj 20) args) := by
  simp only [callT, callS]
  cases mapO (snap h allObj 20) args with
  | none => rfl
  | some ts => simp only [kP]; cases K g ts <;> rfl
def scAll : List T → Bool
  | [] => true
  | .sc _ :: r => scAll r
  | _ :: _ => false
theorem scAll_nil : scAll [] = true := (fun x => x) rfl
theorem scAll_cons {v : Value} {r : List T} : scAll (.sc v :: r) = scAll r := (fun x => x) rfl
theorem scAll_eq (cs : List T) : (cs.all fun | .sc _ => true | _ => false) = scAll cs := by
  induction cs with
  | nil => rfl
  | cons c cs ih => cases c <;> simp [scAll, List.all_cons, ih]
theorem plain_sc {v : Value} : (T.sc v).plain = true := (fun x => x) rfl
theorem plain_agg {cs : List T} : (T.agg cs).plain = scAll cs := by simp only [T.plain]; exact scAll_eq cs
def plAll : List T → Bool
  | [] => true
  | x :: r => (match x with | .sc _ => true | .agg cs => scAll cs | _ => false) && plAll r
theorem plAll_nil : plAll [] = true := (fun x => x) rfl
theorem plAll_sc {v : Value} {r : List T} : plAll (.sc v :: r) = plAll r := by simp [plAll]
theorem plAll_agg {cs r : List T} : plAll (.agg cs :: r) = (scAll cs && plAll r) := by simp [plAll]
theorem plain_tup {vs : List T} : (T.tup vs).plain = plAll vs := by
  simp only [T.plain]
  induction vs with
  | nil => rfl
  | cons c cs ih =>
    simp only [List.all_cons, plAll, ih]
    cases c with
    | agg xs => exact congrArg (fun b => b && plAll cs) (scAll_eq xs)
    | _ => rfl
def snR (h : Heap) (d off : Nat) : Option AV → Option T
  | some v => snO off (mapO (snap h allObj d) v.cells)
  | none => none
where snO (off : Nat) : Option (List T) → Option T
  | some ts => some (.ip (ts.drop off))
  | none => none
theorem snO_some {off : Nat} {ts : List T} : snR.snO off (some ts) = some (.ip (ts.drop off)) := (fun x => x) rfl
theorem snR_some {d off : Nat} {v : AV} : snR h d off (some v) = snR.snO off (mapO (snap h allObj d) v.cells) := (fun x => x) rfl
theorem sn_ref {d o q i off : Nat} : snap h allObj (d + 1) (.ref o q i off) = snR h d off (rowAt h o q i) := by
  simp only [snap, snR, allObj, if_true]
  cases rowAt h o q i with
  | none => rfl
  | some v => simp only [snR.snO]; cases mapO (snap h (fun _ => true) d) v.cells <;> rfl
theorem sn_mp {d o : Nat} : snap h allObj (d + 1) (.mp o) = none := (fun x => x) rfl
theorem consT_none {r : Option (List T)} : consT r none = none := (fun x => x) rfl

/-! Freezing -/
theorem nm_t {x : T} : names (.t x) = [] := by simp [names]
theorem nm_ref {o q i k : Nat} : names (.ref o q i k) = [o] := by simp [names]
theorem nm_ms {o q i l k : Nat} {c : Bool} : names (.ms o q i l k c) = [o] := by simp [names]
theorem nm_mp {o : Nat} : names (.mp o) = [o] := by simp [names]
theorem nm_agg {cs : List AV} : names (.agg cs) = namesAll cs := by simp [names]
theorem nm_fn {g : Fn} {a b : List AV} : names (.fn g a b) = namesAll a ++ namesAll b := by simp [names]
theorem nm_nil : namesAll [] = [] := by simp [namesAll]
theorem nm_cons {v : AV} {r : List AV} : namesAll (v :: r) = names v ++ namesAll r := by simp [namesAll]
theorem nm_map {xs : List T} : namesAll (xs.map .t) = [] := by
  induction xs with
  | nil => exact nm_nil
  | cons x xs ih => rw [List.map_cons, nm_cons, nm_t, ih]; rfl
theorem nm_row {k mr : Nat} {es : List AV} : namesObj (some (.row k es mr)) = namesAll es := (fun x => x) rfl
def reachB (h : Heap) (d : Nat) : List Nat → List Nat
  | [] => []
  | x :: l => reach h d (x :: l)
theorem reachB_nil {d : Nat} : reachB h d [] = [] := (fun x => x) rfl
theorem reachB_cons {d x : Nat} {l : List Nat} : reachB h d (x :: l) = reach h d (x :: l) := (fun x => x) rfl
theorem reach_succ {d : Nat} {os : List Nat} : reach h (d + 1) os = os ++ reachB h d (os.flatMap (fun o => namesObj h[o]?)) := by
  simp only [reach]
  cases os.flatMap (fun o => namesObj h[o]?) <;> rfl
def fzB (os : List Nat) (e : FEnv) (h : Heap) : Option Heap → Option (FEnv × Heap)
  | some h' => some (frzF h (fun o => os.contains o) e, h')
  | none => none
theorem fzB_some {os : List Nat} {h' : Heap} : fzB os e h (some h') = some (frzF h (fun o => os.contains o) e, h') := (fun x => x) rfl
theorem freeze_eq {os : List Nat} : freezeF os e h = fzB os e h (goneOf h (fun o => os.contains o) 0 h) := by
  simp only [freezeF, fzB]
  cases goneOf h (fun o => os.contains o) 0 h <;> rfl
theorem gone_nil {p : Nat → Bool} {i : Nat} : goneOf h p i [] = some [] := (fun x => x) rfl
theorem gone_cons {p : Nat → Bool} {i : Nat} {x : AObj} {r : Heap} : goneOf h p i (x :: r) = consHO (goneOf h p (i + 1) r) (if p i then some .gone else frzObj h p x) := by
  simp only [goneOf]
  cases (if p i then some AObj.gone else frzObj h p x) <;> cases goneOf h p (i + 1) r <;> rfl
def tO : Option T → Option AV
  | some x => some (.t x)
  | none => none
theorem tO_some {x : T} : tO (some x) = some (.t x) := (fun x => x) rfl
def snRp (h : Heap) (p : Nat → Bool) (d off : Nat) : Option AV → Option T
  | some v => snR.snO off (mapO (snap h p d) v.cells)
  | none => none
theorem snRp_some {p : Nat → Bool} {d off : Nat} {v : AV} : snRp h p d off (some v) = snR.snO off (mapO (snap h p d) v.cells) := (fun x => x) rfl
theorem frz_refX {p : Nat → Bool} {o q i k : Nat} (ho : p o = true) : frz h p (.ref o q i k) = tO (snRp h p 19 k (rowAt h o q i)) := by
  simp only [frz, frzCell, avoid, ho, Bool.not_true, Bool.false_eq_true, if_false, snap, if_true]
  cases rowAt h o q i with
  | none => rfl
  | some v => simp only [snRp, snR.snO]; cases mapO (snap h p 19) v.cells <;> rfl
theorem snp_t {p : Nat → Bool} {d : Nat} {x : T} : snap h p d (.t x) = some x := by cases d <;> rfl
theorem mapSp_nil {p : Nat → Bool} {d : Nat} : mapO (snap h p d) [] = some [] := (fun x => x) rfl
theorem mapSp_cons {p : Nat → Bool} {d : Nat} {x : AV} {l : List AV} : mapO (snap h p d) (x :: l) = consT (mapO (snap h p d) l) (snap h p d x) := by
  simp only [mapO]
  cases snap h p d x <;> cases mapO (snap h p d) l <;> rfl
theorem mapSp_map {p : Nat → Bool} {d : Nat} {xs : List T} : mapO (snap h p d) (xs.map .t) = some xs := by
  induction xs with
  | nil => rfl
  | cons x xs ih => rw [List.map_cons, mapSp_cons, ih, snp_t, consT_some, consO_some]

theorem fnB_none {g : FuncId} {a b : List AV} {x : Option (List T)} : fnB g a b x none = .fn (.func g) a b := by cases x <;> rfl
theorem fnB_none' {g : FuncId} {a b : List AV} {x : Option (List T)} : fnB g a b none x = .fn (.func g) a b := by cases x <;> rfl
theorem crit_done {crit : List (Nat × Nat)} {ts : List (Option (List Nat))} (h : critOk crit ts = true) : critOk crit ts = true := h
theorem and_crit {crit : List (Nat × Nat)} {ts : List (Option (List Nat))} {Q : Prop} (h1 : critOk crit ts = true) (h2 : Q) : critOk crit ts = true ∧ Q := ⟨h1, h2⟩

/-- A call in the caller's heap: go on in the function's code. -/
theorem oB_inl {g : FuncId} {nt : Nat} {c : C} {rs : List (Nat × Option (Bool × Nat))} {args : List AV} {d : Nat} {k : AV → Heap → Prop} (hF : cFn P pol g = some ⟨nt, c, rs⟩) (hl : args.length ≤ nt)
    (hw : wc P pol K (inl P pol K n d) n g c (endK rs k) (envOf args) h) : oB (inl P pol K n (d + 1) (.fn g) args h) k := by
  obtain ⟨v, h', h1, h2⟩ := inl_go hF hl hw
  rw [h1]
  exact h2

end Go.Abs
