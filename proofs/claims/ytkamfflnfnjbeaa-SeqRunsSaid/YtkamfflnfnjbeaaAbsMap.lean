/- Maps as lists of keys and values. -/
import Derived.Test.YtkamfflnfnjbeaaAbsSet
set_option linter.unusedSimpArgs false
set_option linter.unusedVariables false
namespace Go.Abs
open Go

variable {P : Program} {κ α : Type} [DecidableEq κ]

/-- A type of keys, and how its values are written. -/
structure KeyOk (P : Program) (kt : TypeId) (encK : κ → Value) : Prop where
  ok : ∀ a, okVal (encK a) = true
  key : ∀ a, keyOk P 20 kt (ofVal (encK a)) = true
  eq : ∀ a b, eqIn P 20 kt (ofVal (encK a)) (ofVal (encK b)) = some (decide (a = b))
  bits : ∀ a, Instr.sameBits 10000 (encK a) (encK a) = true

def mget (l : List (κ × α)) (k : κ) : Option α :=
  match l with
  | [] => none
  | (k', v) :: r => if k' = k then some v else mget r k
def mput (l : List (κ × α)) (k : κ) (v : α) : List (κ × α) :=
  match l with
  | [] => [(k, v)]
  | (k', v') :: r => if k' = k then (k, v) :: r else (k', v') :: mput r k v

theorem mget_mput (l : List (κ × α)) (k k' : κ) (v : α) : mget (mput l k v) k' = if k = k' then some v else mget l k' := by
  induction l with
  | nil => simp [mput, mget]
  | cons p r ih =>
    obtain ⟨q, w⟩ := p
    rw [mput]
    by_cases h1 : q = k
    · rw [if_pos h1, mget, mget]
      by_cases h2 : k = k'
      · simp [h2]
      · simp [h2, h1]
    · rw [if_neg h1, mget, mget, ih]
      by_cases h2 : q = k'
      · simp only [h2, if_true]
        rw [if_neg (fun h => h1 (by rw [h2, h]))]
      · simp [h2]
theorem mput_len (l : List (κ × α)) (k : κ) (v : α) : (mput l k v).length = if (mget l k).isSome then l.length else l.length + 1 := by
  induction l with
  | nil => simp [mput, mget]
  | cons p r ih =>
    obtain ⟨q, w⟩ := p
    rw [mput, mget]
    by_cases h1 : q = k
    · simp [h1]
    · rw [if_neg h1, if_neg h1, List.length_cons, ih]
      split <;> simp

/-- The entries of a map. -/
def encM (encK : κ → Value) (f : α → AV) (l : List (κ × α)) : List (Value × AV) := l.map fun p => (encK p.1, f p.2)

theorem find_map {kt : TypeId} {encK : κ → Value} (K : KeyOk P kt encK) (f : α → AV) (k : κ) : ∀ (l : List (κ × α)) (i : Nat), findE P kt (encK k) (encM encK f l) i = some ((l.findIdx? (fun p => decide (p.1 = k))).map (· + i)) := by
  intro l
  induction l with
  | nil => intro i; simp [encM, findE]
  | cons p r ih =>
    intro i
    have ih' := ih (i + 1)
    simp only [encM] at ih' ⊢
    rw [List.map_cons, findE]
    rw [if_pos (K.ok _), K.eq]
    by_cases h : k = p.1
    · subst h
      simp only [decide_true, K.bits, if_true, List.findIdx?_cons, Option.map_some, Nat.zero_add]
    · have h' : ¬ p.1 = k := fun e => h e.symm
      simp only [decide_eq_false h, ih', List.findIdx?_cons, decide_eq_false h', Bool.false_eq_true, if_false, Option.map_map]
      congr 1
      congr 1
      funext x
      simp only [Function.comp]
      omega

theorem mget_find (l : List (κ × α)) (k : κ) : (match l.findIdx? (fun p => decide (p.1 = k)) with | some i => (l[i]?).map (·.2) | none => none) = mget l k := by
  induction l with
  | nil => rfl
  | cons p r ih =>
    rw [List.findIdx?_cons, mget]
    by_cases h : p.1 = k
    · simp [h]
    · simp only [decide_eq_false h, Bool.false_eq_true, if_false, if_neg h, ← ih]
      cases List.findIdx? (fun p => decide (p.1 = k)) r with
      | none => rfl
      | some i => simp
theorem mget_none {l : List (κ × α)} {k : κ} (h : l.findIdx? (fun p => decide (p.1 = k)) = none) : mget l k = none := by
  have := mget_find l k
  rw [h] at this
  exact this.symm
theorem mget_some {l : List (κ × α)} {k : κ} {i : Nat} (h : l.findIdx? (fun p => decide (p.1 = k)) = some i) : ∃ k' v, l[i]? = some (k', v) ∧ mget l k = some v := by
  have hl := mget_find l k
  rw [h] at hl
  simp only at hl
  have hi : i < l.length := by
    have := List.findIdx?_eq_some_iff_findIdx_eq.1 h
    exact this.1
  refine ⟨(l[i]).1, (l[i]).2, by simp [hi], ?_⟩
  rw [← hl]
  simp [hi]

def orZ (z : T) (f : α → AV) : Option α → AV
  | some v => f v
  | none => .t z

theorem val_ofVal {v : Value} (h : okVal v = true) : (ofVal v).val? = some v := by
  cases v with
  | agg cs =>
    simp only [ofVal, T.val?]
    have : ∀ l : List Value, scVals (l.map T.sc) = some l := by
      intro l
      induction l with
      | nil => rfl
      | cons x l ih => simp only [List.map_cons, scVals, ih]
    rw [this]
  | _ => rfl

theorem lk_map {t kt elem : TypeId} {encK : κ → Value} {f : α → AV} {z : T} {h : Heap} {o : Nat} {l : List (κ × α)} (K : KeyOk P kt encK) (ht : typ P t = some (.map kt elem)) (hz : zeroOf P elem = some z) (k : κ)
    (ho : h[o]? = some (.map (encM encK f l))) : lkV P t false h (.mp o) (.t (ofVal (encK k))) = some (orZ z f (mget l k)) := by
  simp only [lkV, aLookup, ht, AV.val?, val_ofVal (K.ok k), ho, K.ok k, K.key k, Bool.and_self, if_true, find_map K f k l 0]
  cases hf : l.findIdx? (fun p => decide (p.1 = k)) with
  | none => simp only [Option.map_none, hz, mget_none hf, orZ]; rfl
  | some i =>
    obtain ⟨k', v, h1, h2⟩ := mget_some hf
    have h3 : (encM encK f l)[i]? = some (encK k', f v) := by simp [encM, h1]
    simp only [Option.map_some, Nat.add_zero, h3, h2, orZ]
    rfl
theorem lk_mapOk {t kt elem : TypeId} {encK : κ → Value} {f : α → AV} {z : T} {h : Heap} {o : Nat} {l : List (κ × α)} (K : KeyOk P kt encK) (ht : typ P t = some (.map kt elem)) (hz : zeroOf P elem = some z) (k : κ)
    (ho : h[o]? = some (.map (encM encK f l))) : lkV P t true h (.mp o) (.t (ofVal (encK k))) = some (mkTup [orZ z f (mget l k), .t (.sc (.bool (mget l k).isSome))]) := by
  simp only [lkV, aLookup, ht, AV.val?, val_ofVal (K.ok k), ho, K.ok k, K.key k, Bool.and_self, if_true, find_map K f k l 0]
  cases hf : l.findIdx? (fun p => decide (p.1 = k)) with
  | none => simp only [Option.map_none, hz, mget_none hf, orZ]; rfl
  | some i =>
    obtain ⟨k', v, h1, h2⟩ := mget_some hf
    have h3 : (encM encK f l)[i]? = some (encK k', f v) := by simp [encM, h1]
    simp only [Option.map_some, Nat.add_zero, h3, h2, orZ]
    rfl

theorem mput_find (l : List (κ × α)) (k : κ) (v : α) : mput l k v = match l.findIdx? (fun p => decide (p.1 = k)) with | some i => l.set i (k, v) | none => l ++ [(k, v)] := by
  induction l with
  | nil => rfl
  | cons p r ih =>
    obtain ⟨q, w⟩ := p
    rw [mput, List.findIdx?_cons]
    by_cases h : q = k
    · simp [h]
    · simp only [decide_eq_false h, Bool.false_eq_true, if_false, ih]
      cases List.findIdx? (fun p => decide (p.1 = k)) r with
      | none => simp [h]
      | some i => simp [h]

theorem up_map {t kt elem : TypeId} {encK : κ → Value} {f : α → AV} {h : Heap} {o : Nat} {l : List (κ × α)} (K : KeyOk P kt encK) (ht : typ P t = some (.map kt elem)) (k : κ) (v : α)
    (ho : h[o]? = some (.map (encM encK f l))) : upV P t h (.mp o) (.t (ofVal (encK k))) (f v) = some (h.set o (.map (encM encK f (mput l k v)))) := by
  simp only [upV, aMapSet, ht, AV.val?, val_ofVal (K.ok k), ho, K.ok k, K.key k, Bool.and_self, if_true, find_map K f k l 0, mput_find]
  cases hf : l.findIdx? (fun p => decide (p.1 = k)) with
  | none => simp only [Option.map_none, encM, List.map_append, List.map_cons, List.map_nil]
  | some i => simp only [Option.map_some, Nat.add_zero, encM, List.map_set]

omit [DecidableEq κ] in
theorem encM_nil {encK : κ → Value} {f : α → AV} : ([] : List (Value × AV)) = encM encK f [] := rfl

omit [DecidableEq κ] in
/-- Entries of trees: nothing to freeze. -/
theorem frz_encM {encK : κ → Value} {f : α → AV} {l : List (κ × α)} {h : Heap} {p : Nat → Bool} (hf : ∀ v, ∃ x, f v = .t x) : frzObj h p (.map (encM encK f l)) = some (.map (encM encK f l)) := by
  have : (encM encK f l).all (fun kv => avoid p kv.2) = true := by
    rw [List.all_eq_true]
    intro kv hkv
    simp only [encM, List.mem_map] at hkv
    obtain ⟨q, _, rfl⟩ := hkv
    obtain ⟨x, hx⟩ := hf q.2
    simp [hx, avoid]
  simp only [frzObj, this, if_true]

theorem key_i64 {kt : TypeId} (ht : typ P kt = some (.int .i64)) : KeyOk P kt (fun n : Int => Value.int .i64 n) where
  ok _ := rfl
  key a := by simp [keyOk, ofVal, ht]
  eq a b := by
    simp only [eqIn, ofVal, ht, if_true]
    congr 1
  bits a := by simp [Instr.sameBits]

end Go.Abs
