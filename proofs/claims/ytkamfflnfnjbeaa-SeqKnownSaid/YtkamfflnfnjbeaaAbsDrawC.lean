/- What is asked of a region that draws its order, and the trace of its run in the order of the text. -/
import Derived.Test.YtkamfflnfnjbeaaAbsDrawB
set_option linter.unusedSimpArgs false
set_option linter.unusedVariables false
namespace Go.Abs
open Go

variable {P : Program} {pol : Pol} {K : Oracle} {I : Inl} {f : FuncId} {ops : Array Oper}

inductive Bef (ops : Array Oper) : Nat → Nat → Prop
  | edge (j : Nat) (o : Oper) (e : Edge) (ho : ops[j]? = some o) (he : e ∈ o.after) (hb : Region.binds .any e = true) : Bef ops e.on j
  | trans (i j : Nat) (o : Oper) (e : Edge) (ho : ops[j]? = some o) (he : e ∈ o.after) (hb : Region.binds .any e = true) (h : Bef ops i e.on) : Bef ops i j

def dstAt (ops : Array Oper) (i : Nat) : Option Tmp := (ops[i]?).bind (·.dst)

def tmpOf : Operand → Option Tmp
  | .tmp t => some t
  | _ => none

/-- The temporaries that an operation names. -/
def namesOf (ops : Array Oper) (o : Oper) : List Tmp :=
  o.dst.toList ++ o.op.operands.toList.filterMap tmpOf ++ (match o.guard with | some (g, _) => (dstAt ops g).toList | none => [])

def Kind.clash : Kind → Kind → Bool
  | .n, _ => false
  | _, .n => false
  | .r, .r => false
  | .a, .a => false
  | _, _ => true

def edgesOk (ops : Array Oper) : Bool :=
  (List.range ops.size).all fun j => match ops[j]? with
    | some o => o.after.all fun e => !Region.binds .any e || decide (e.on < j)
    | none => true

def masksOk (ops : Array Oper) (m : Array Nat) : Bool :=
  (List.range ops.size).all fun j => match ops[j]? with
    | some o => (List.range j).all fun i => !(m.getD j 0).testBit i || o.after.any fun e => Region.binds .any e && (e.on == i || (decide (i < e.on) && (m.getD e.on 0).testBit i))
    | none => true

def tempsOk (ops : Array Oper) (m : Array Nat) : Bool :=
  (List.range ops.size).all fun j => match ops[j]? with
    | some o => (List.range ops.size).all fun i => i == j || (match dstAt ops i with
      | some d => !(namesOf ops o).contains d || (m.getD (max i j) 0).testBit (min i j)
      | none => true)
    | none => true

def coverOk (crit : List (Nat × Nat)) (ops : Array Oper) (m : Array Nat) : Bool :=
  (List.range ops.size).all fun j => match ops[j]? with
    | some o => (List.range j).all fun i => match ops[i]? with
      | some p => !(kindOf p.op).clash (kindOf o.op) || (m.getD j 0).testBit i || crit.contains (i, j)
      | none => true
    | none => true

/-- The check of a region that draws its order. -/
def regionOk (crit : List (Nat × Nat)) (ops : Array Oper) : Bool :=
  edgesOk ops && masksOk ops (Region.before ops) && tempsOk ops (Region.before ops) && coverOk crit ops (Region.before ops)

structure RegOk (crit : List (Nat × Nat)) (ops : Array Oper) : Prop where
  edges : ∀ (i : Nat) o, ops[i]? = some o → ∀ e ∈ o.after, Region.binds .any e = true → e.on < i
  temps : ∀ (i j : Nat) o d, ops[j]? = some o → i ≠ j → dstAt ops i = some d → d ∈ namesOf ops o → (i < j ∧ Bef ops i j) ∨ (j < i ∧ Bef ops j i)
  cover : ∀ (i j : Nat) p o, ops[i]? = some p → ops[j]? = some o → i < j → (kindOf p.op).clash (kindOf o.op) = true → Bef ops i j ∨ (i, j) ∈ crit

theorem lt_of_ops {i : Nat} {o : Oper} (h : ops[i]? = some o) : i < ops.size := (Array.getElem?_eq_some_iff.1 h).1

theorem regionOk_ok {crit : List (Nat × Nat)} (h : regionOk crit ops = true) : RegOk crit ops := by
  simp only [regionOk, Bool.and_eq_true] at h
  obtain ⟨⟨⟨h1, h2⟩, h3⟩, h4⟩ := h
  have edges : ∀ (i : Nat) o, ops[i]? = some o → ∀ e ∈ o.after, Region.binds .any e = true → e.on < i := by
    intro i o ho e he hb
    have := List.all_eq_true.1 h1 i (by simp [lt_of_ops ho])
    simp only [ho, Array.all_eq_true_iff_forall_mem] at this
    have := this e he
    simpa [hb] using this
  have masks : ∀ (j i : Nat), j < ops.size → i < j → ((Region.before ops).getD j 0).testBit i = true → Bef ops i j := by
    intro j
    induction j using Nat.strongRecOn with
    | _ j ih =>
      intro i hj hi hb
      have ho : ops[j]? = some ops[j] := by simp [hj]
      have := List.all_eq_true.1 h2 j (by simp [hj])
      simp only [ho, List.all_eq_true] at this
      have := this i (by simp [hi])
      simp only [hb, Bool.not_true, Bool.false_or, Array.any_eq_true] at this
      obtain ⟨k, hk, hkb⟩ := this
      simp only [Bool.and_eq_true, Bool.or_eq_true, beq_iff_eq, decide_eq_true_eq] at hkb
      obtain ⟨hbind, hor⟩ := hkb
      have hmem : ops[j].after[k] ∈ ops[j].after := Array.getElem_mem _
      rcases hor with e | ⟨hi', hb'⟩
      · rw [← e]; exact .edge j _ _ ho hmem hbind
      · have hlt := edges j _ ho _ hmem hbind
        exact .trans i j _ _ ho hmem hbind (ih _ hlt i (by omega) hi' hb')
  refine ⟨edges, fun i j o d ho hij hd hn => ?_, fun i j p o hp ho hij hc => ?_⟩
  · have hi : i < ops.size := by
      unfold dstAt at hd
      cases hx : ops[i]? with
      | none => simp [hx] at hd
      | some p => exact lt_of_ops hx
    have := List.all_eq_true.1 h3 j (by simp [lt_of_ops ho])
    simp only [ho, List.all_eq_true] at this
    have := this i (by simp [hi])
    simp only [hd, Bool.or_eq_true, beq_iff_eq, hij, false_or] at this
    have hb : ((Region.before ops).getD (max i j) 0).testBit (min i j) = true := by simpa [hn] using this
    by_cases hl : i < j
    · rw [Nat.max_eq_right (by omega), Nat.min_eq_left (by omega)] at hb
      exact .inl ⟨hl, masks j i (lt_of_ops ho) hl hb⟩
    · have hl : j < i := by omega
      rw [Nat.max_eq_left (by omega), Nat.min_eq_right (by omega)] at hb
      exact .inr ⟨hl, masks i j hi hl hb⟩
  · have := List.all_eq_true.1 h4 j (by simp [lt_of_ops ho])
    simp only [ho, List.all_eq_true] at this
    have := this i (by simp [hij])
    simp only [hp, hc, Bool.not_true, Bool.false_or, Bool.or_eq_true] at this
    rcases this with hb | hm
    · exact .inl (masks j i (lt_of_ops ho) hij hb)
    · exact .inr (by simpa using hm)

end Go.Abs
