/- The trees of a type, leaf by leaf. -/
import Derived.Test.YtkamfflnfnjbeaaAbsOpen
import Derived.Test.YtkamfflnfnjbeaaAbsNum
set_option linter.unusedSimpArgs false
set_option linter.unusedVariables false
namespace Go.Abs
open Go

variable {P : Program}

/-- A tree of a type. -/
def FitE (P : Program) (t : TypeId) (x : T) : Prop := ∃ d, fitV P (FitC P d) t x

inductive Leaf where
  | bool
  | int (k : IntKind)
  | str
  | sl (size : Nat) (e : TypeId)
  deriving DecidableEq

def LeafOk (P : Program) : Leaf → T → Prop
  | .bool, x => ∃ b, x = .sc (.bool b)
  | .int k, x => ∃ n, x = .sc (.int k n) ∧ (Lit.int k n).wf = true
  | .str, x => ∃ s, x = .sc (.string s) ∧ s.size ≤ maxLen
  | .sl size e, x => ∃ xs, x = .sl false size xs ∧ xs.length ≤ maxLen ∧ ∀ y ∈ xs, FitE P e y

def LeafsOk (P : Program) : List Leaf → List T → Prop
  | [], [] => True
  | l :: ls, c :: cs => LeafOk P l c ∧ LeafsOk P ls cs
  | _, _ => False

theorem leafs_nil {cs : List T} (h : LeafsOk P [] cs) : cs = [] := by
  cases cs with
  | nil => rfl
  | cons c cs => exact h.elim

theorem leafs_cons {l : Leaf} {ls : List Leaf} {cs : List T} (h : LeafsOk P (l :: ls) cs) : ∃ c r, cs = c :: r ∧ LeafOk P l c ∧ LeafsOk P ls r := by
  cases cs with
  | nil => exact h.elim
  | cons c cs => exact ⟨c, cs, rfl, h.1, h.2⟩

theorem leafs_append {a b : List Leaf} {xs ys : List T} (h1 : LeafsOk P a xs) (h2 : LeafsOk P b ys) : LeafsOk P (a ++ b) (xs ++ ys) := by
  induction a generalizing xs with
  | nil => rw [leafs_nil h1]; exact h2
  | cons l a ih => obtain ⟨c, r, rfl, h3, h4⟩ := leafs_cons h1; exact ⟨h3, ih h4⟩

/-- The leaves of a type, cell by cell. -/
def leavesOf (P : Program) : Nat → TypeId → Option (List Leaf)
  | 0, _ => none
  | d + 1, t =>
    match P.underlying t with
    | some .bool => some [.bool]
    | some (.int k) => some [.int k]
    | some .string => some [.str]
    | some (.slice e) => some [.sl (P.cellsOf e) e]
    | some (.struct fs) => if laidAt P (P.cellsOf t) 0 fs.toList then (fs.toList.mapM fun f => leavesOf P d f.type).map List.flatten else none
    | some (.array n e) => if P.cellsOf t = n * P.cellsOf e then (leavesOf P d e).map fun l => (List.replicate n l).flatten else none
    | _ => none

theorem mapM_flat {fs : List Field} {g : TypeId → Option (List Leaf)} {ls : List (List Leaf)} {total : Nat} : ∀ {off : Nat} {cs : List T}, laidAt P total off fs = true → off + cs.length = total → (fs.mapM fun f => g f.type) = some ls →
    (∀ f ∈ fs, ∀ l, g f.type = some l → LeafsOk P l ((cs.drop (f.offset - off)).take (P.cellsOf f.type))) → LeafsOk P ls.flatten cs := by
  induction fs generalizing ls with
  | nil =>
    intro off cs h hl hm _
    simp [laidAt] at h
    simp at hm
    subst hm
    have : cs = [] := List.eq_nil_of_length_eq_zero (by omega)
    subst this
    trivial
  | cons f fs ih =>
    intro off cs h hl hm hf
    simp only [laidAt, Bool.and_eq_true, beq_iff_eq] at h
    obtain ⟨e, hr⟩ := h
    have hle := laidAt_le hr
    rw [List.mapM_cons] at hm
    cases hg : g f.type with
    | none => simp [hg] at hm
    | some l =>
      cases hrest : fs.mapM (fun f => g f.type) with
      | none => simp [hg, hrest] at hm
      | some ls' =>
        simp [hg, hrest] at hm
        subst hm
        have h1 := hf f (by simp) l hg
        rw [e, Nat.sub_self, List.drop_zero] at h1
        have hsplit : cs = cs.take (P.cellsOf f.type) ++ cs.drop (P.cellsOf f.type) := (List.take_append_drop _ _).symm
        rw [hsplit, List.flatten_cons]
        refine leafs_append h1 (ih hr (by simp; omega) hrest fun g' hg' l' hl' => ?_)
        have := hf g' (by simp [hg']) l' hl'
        have hge := laidAt_ge hr g' hg'
        rw [List.drop_drop]
        have e2 : P.cellsOf f.type + (g'.offset - (off + P.cellsOf f.type)) = g'.offset - off := by omega
        rw [e2]
        exact this

theorem fitC_leaves : ∀ (d d' : Nat) {t : TypeId} {ls : List Leaf} {cs : List T}, leavesOf P d t = some ls → FitC P d' t cs → LeafsOk P ls cs := by
  intro d
  induction d with
  | zero => intro d' t ls cs h; simp [leavesOf] at h
  | succ d ih =>
    intro d' t ls cs h hf
    cases d' with
    | zero => exact hf.elim
    | succ d' =>
      simp only [leavesOf] at h
      simp only [FitC] at hf
      cases hu : P.underlying t with
      | none => simp [hu] at h
      | some u =>
        simp only [hu] at h hf
        cases u with
        | bool => simp at h; subst h; obtain ⟨b, rfl⟩ := hf; exact ⟨⟨b, rfl⟩, trivial⟩
        | int k => simp at h; subst h; obtain ⟨n, rfl, hw⟩ := hf; exact ⟨⟨n, rfl, hw⟩, trivial⟩
        | string => simp at h; subst h; obtain ⟨s, rfl, hw⟩ := hf; exact ⟨⟨s, rfl, hw⟩, trivial⟩
        | slice e => simp at h; subst h; obtain ⟨xs, rfl, hw, hx⟩ := hf; exact ⟨⟨xs, rfl, hw, fun y hy => ⟨d', hx y hy⟩⟩, trivial⟩
        | struct fs =>
          simp only at h hf
          split at h
          · rename_i hl
            cases hm : fs.toList.mapM (fun f => leavesOf P d f.type) with
            | none => simp [hm] at h
            | some l =>
              simp [hm] at h
              subst h
              exact mapM_flat (g := leavesOf P d) (off := 0) hl (by omega) hm fun f hfm l hl' => ih d' hl' (by simpa using hf.2 f hfm)
          · simp at h
        | array n e =>
          simp only at h hf
          split at h
          · rename_i hl
            cases hm : leavesOf P d e with
            | none => simp [hm] at h
            | some l =>
              simp [hm] at h
              subst h
              have key : ∀ (n : Nat) (cs : List T), cs.length = n * P.cellsOf e → (∀ i, i < n → FitC P d' e ((cs.drop (i * P.cellsOf e)).take (P.cellsOf e))) → LeafsOk P (List.replicate n l).flatten cs := by
                intro n
                induction n with
                | zero => intro cs hc _; have : cs = [] := List.eq_nil_of_length_eq_zero (by omega)
                          subst this; trivial
                | succ n ihn =>
                  intro cs hc hw
                  rw [Nat.succ_mul] at hc
                  have hsplit : cs = cs.take (P.cellsOf e) ++ cs.drop (P.cellsOf e) := (List.take_append_drop _ _).symm
                  rw [hsplit, List.replicate_succ, List.flatten_cons]
                  refine leafs_append (ih d' hm (by simpa using hw 0 (by omega))) (ihn _ (by simp; omega) fun i hi => ?_)
                  have := hw (i + 1) (by omega)
                  rw [List.drop_drop]
                  rw [Nat.succ_mul, Nat.add_comm] at this
                  exact this
              exact key n cs (by omega) hf.2
          · simp at h
        | _ => simp at h

theorem fit_agg {t : TypeId} {x : T} {ls : List Leaf} (ha : aggB P t = some true) (hl : leavesOf P 20 t = some ls) (h : FitE P t x) : ∃ cs, x = .agg cs ∧ LeafsOk P ls cs := by
  obtain ⟨d, h⟩ := h
  unfold fitV at h
  rw [ha] at h
  obtain ⟨cs, rfl, hc⟩ := h
  exact ⟨cs, rfl, fitC_leaves 20 d hl hc⟩

theorem fit_leaf {t : TypeId} {x : T} {l : Leaf} (ha : aggB P t = some false) (hl : leavesOf P 20 t = some [l]) (h : FitE P t x) : LeafOk P l x := by
  obtain ⟨d, h⟩ := h
  unfold fitV at h
  rw [ha] at h
  exact (fitC_leaves 20 d hl h).1

theorem fitAll_nil {d : Nat} {xs : List T} (h : FitAll P d [] xs) : xs = [] := by
  cases xs with
  | nil => rfl
  | cons x xs => exact h.elim

theorem fitAll_cons {d : Nat} {t : TypeId} {ts : List TypeId} {xs : List T} (h : FitAll P d (t :: ts) xs) : ∃ x r, xs = x :: r ∧ FitE P t x ∧ FitAll P d ts r := by
  cases xs with
  | nil => exact h.elim
  | cons x xs => exact ⟨x, xs, rfl, ⟨d, h.1⟩, h.2⟩

end Go.Abs
