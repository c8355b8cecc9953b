/- Logs, rules and faults: the auditor's maps tell what the log itself tells. Nothing here speaks of the program. -/
import Derived.Test.YthcaepnclhgkmaaDoorAbsMap
namespace Go.Proofs.YthcaepnclhgkmaaDoor
open Go Go.Abs
set_option linter.unusedSimpArgs false
set_option linter.unusedVariables false

structure Nt where
  k : Int
  s : Int
  q : Int
  t : Int
structure Ru where
  s : Int
  le : Int
  mo : Int
  od : Bool
structure Fate where
  sent : Bool
  got : Bool
  ix : Int
  at_ : Int

def isN (k s q : Int) (x : Nt) : Bool := decide (x.k = k) && (decide (x.s = s) && decide (x.q = q))
theorem isN_iff {k s q : Int} {x : Nt} : isN k s q x = true ↔ x.k = k ∧ x.s = s ∧ x.q = q := by simp [isN]
/-- The first note of a kind about a frame. -/
def fst1 (k s q : Int) : List Nt → Option Nat
  | [] => none
  | x :: l => if isN k s q x = true then some 0 else (fst1 k s q l).map (· + 1)

theorem fst1_app (k s q : Int) (x : Nt) : ∀ p : List Nt, fst1 k s q (p ++ [x]) = match fst1 k s q p with | some i => some i | none => if isN k s q x = true then some p.length else none := by
  intro p
  induction p with
  | nil => simp only [List.nil_append, fst1]; split <;> simp
  | cons y p ih =>
    simp only [List.cons_append, fst1, ih]
    by_cases h : isN k s q y = true
    · simp [h]
    · rw [if_neg h, if_neg h]
      cases fst1 k s q p with
      | some i => simp
      | none => simp only [Option.map_none]; split <;> simp

theorem fst1_some {k s q : Int} : ∀ {p : List Nt} {i : Nat}, fst1 k s q p = some i → ∃ x, p[i]? = some x ∧ isN k s q x = true := by
  intro p
  induction p with
  | nil => intro i h; simp [fst1] at h
  | cons y p ih =>
    intro i h
    rw [fst1] at h
    split at h
    · rename_i hy
      simp only [Option.some.injEq] at h; subst h
      exact ⟨y, rfl, hy⟩
    · cases hf : fst1 k s q p with
      | none => rw [hf] at h; simp at h
      | some j =>
        rw [hf] at h
        simp only [Option.map_some, Option.some.injEq] at h
        subst h
        obtain ⟨x, h1, h2⟩ := ih hf
        exact ⟨x, by simpa using h1, h2⟩
theorem fst1_lt {k s q : Int} {p : List Nt} {i : Nat} (h : fst1 k s q p = some i) : i < p.length := by
  obtain ⟨x, h1, _⟩ := fst1_some h
  exact (List.getElem?_eq_some_iff.1 h1).1
theorem fst1_le {k s q : Int} : ∀ {p : List Nt} {i j : Nat} {x : Nt}, fst1 k s q p = some i → p[j]? = some x → isN k s q x = true → i ≤ j := by
  intro p
  induction p with
  | nil => intro i j x h; simp [fst1] at h
  | cons y p ih =>
    intro i j x h hj hx
    rw [fst1] at h
    split at h
    · simp only [Option.some.injEq] at h; omega
    · rename_i hy
      cases hf : fst1 k s q p with
      | none => rw [hf] at h; simp at h
      | some m =>
        rw [hf] at h
        simp only [Option.map_some, Option.some.injEq] at h
        subst h
        cases j with
        | zero => simp at hj; subst hj; exact absurd hx hy
        | succ j => have := ih hf (by simpa using hj) hx; omega
theorem fst1_none {k s q : Int} : ∀ {p : List Nt}, fst1 k s q p = none ↔ ∀ x ∈ p, isN k s q x = false := by
  intro p
  induction p with
  | nil => simp [fst1]
  | cons y p ih =>
    rw [fst1]
    by_cases h : isN k s q y = true
    · simp [h]
    · simp only [h, Bool.false_eq_true, if_false, Option.map_eq_none_iff, ih, List.mem_cons, forall_eq_or_imp]
      simp at h
      simp [h]

def tAt (p : List Nt) (i : Nat) : Int := ((p[i]?).map (·.t)).getD 0
theorem tAt_app {p : List Nt} {x : Nt} {i : Nat} (h : i < p.length) : tAt (p ++ [x]) i = tAt p i := by simp only [tAt, List.getElem?_append_left h]

def ruleOf (rs : List Ru) (s : Int) : Option Ru :=
  match rs with
  | [] => none
  | r :: l => if r.s = s then some r else ruleOf l s

/-- A frame that was sent later was received before. -/
def overt (p : List Nt) (s : Int) (i : Nat) : Bool := p.any fun y => decide (y.k = 2) && (decide (y.s = s) && (match fst1 1 s y.q p with | some j => decide (i < j) | none => false))

/-- The kind of the fault of note x behind the notes p; 0: none. -/
def fk (rs : List Ru) (p : List Nt) (x : Nt) : Int :=
  match ruleOf rs x.s with
  | none => 1
  | some r =>
    if x.k = 1 then (if (fst1 1 x.s x.q p).isSome = true then 2 else 0)
    else match fst1 1 x.s x.q p with
      | none => 3
      | some i =>
        if (fst1 2 x.s x.q p).isSome = true then 4
        else if x.t - tAt p i < r.le then 5
        else if r.mo < x.t - tAt p i then 6
        else if r.od = true ∧ overt p x.s i = true then 7 else 0

abbrev Fates := List ((Int × Int) × Fate)
def fget (F : Fates) (s q : Int) : Fate := (mget F (s, q)).getD ⟨false, false, 0, 0⟩
def ovt (W : List (Int × Int)) (s ix : Int) : Bool := match mget W s with | some m => decide (ix < m) | none => false

/-- What the auditor finds. -/
def pk (rs : List Ru) (F : Fates) (W : List (Int × Int)) (x : Nt) : Int :=
  match ruleOf rs x.s with
  | none => 1
  | some r =>
    if x.k = 1 then (if (fget F x.s x.q).sent = true then 2 else 0)
    else if (fget F x.s x.q).sent = false then 3
    else if (fget F x.s x.q).got = true then 4
    else if x.t - (fget F x.s x.q).at_ < r.le then 5
    else if r.mo < x.t - (fget F x.s x.q).at_ then 6
    else if r.od = true ∧ ovt W x.s (fget F x.s x.q).ix = true then 7 else 0

def lrnF (i : Nat) (x : Nt) (F : Fates) : Fates := if x.k = 1 then mput F (x.s, x.q) ⟨true, false, i, x.t⟩ else mput F (x.s, x.q) ⟨(fget F x.s x.q).sent, true, (fget F x.s x.q).ix, (fget F x.s x.q).at_⟩
def lrnW (x : Nt) (F : Fates) (W : List (Int × Int)) : List (Int × Int) := if x.k = 1 then W else mput W x.s (max ((mget W x.s).getD 0) (fget F x.s x.q).ix)

structure AInv (p : List Nt) (F : Fates) (W : List (Int × Int)) : Prop where
  kd : ∀ y ∈ p, y.k = 1 ∨ y.k = 2
  sent : ∀ s q, (fget F s q).sent = (fst1 1 s q p).isSome
  got : ∀ s q, (fget F s q).got = (fst1 2 s q p).isSome
  ix : ∀ s q i, fst1 1 s q p = some i → (fget F s q).ix = i ∧ (fget F s q).at_ = tAt p i
  uns : ∀ y ∈ p, y.k = 2 → ∃ j, fst1 1 y.s y.q p = some j
  wn : ∀ s, mget W s = none → ∀ y ∈ p, y.k = 2 → y.s ≠ s
  ws : ∀ s m, mget W s = some m → (∃ y ∈ p, y.k = 2 ∧ y.s = s ∧ ∃ j : Nat, fst1 1 s y.q p = some j ∧ m = j) ∧ ∀ y ∈ p, y.k = 2 → y.s = s → ∀ j : Nat, fst1 1 s y.q p = some j → (j : Int) ≤ m

theorem ainv_nil : AInv [] [] [] := ⟨fun _ h => ((by cases h)), fun _ _ => rfl, fun _ _ => rfl, fun _ _ _ h => (by simp [fst1] at h), fun _ h => ((by cases h)), fun _ _ _ h => ((by cases h)), fun _ _ h => (by simp [mget] at h)⟩

theorem ovt_eq {p : List Nt} {F : Fates} {W : List (Int × Int)} (h : AInv p F W) (s : Int) (i : Nat) : ovt W s i = overt p s i := by
  unfold ovt
  rw [Bool.eq_iff_iff]
  cases hm : mget W s with
  | none =>
    simp only [Bool.false_eq_true, false_iff, overt, List.any_eq_true, not_exists, not_and]
    intro y hy
    simp only [Bool.and_eq_true, decide_eq_true_eq, not_and]
    intro h1 h2
    exact absurd h2 (h.wn s hm y hy h1)
  | some m =>
    obtain ⟨⟨y, hy, hk, hs, j, hj, rfl⟩, hmax⟩ := h.ws s m hm
    simp only [decide_eq_true_eq, overt, List.any_eq_true, Bool.and_eq_true]
    constructor
    · intro hlt
      exact ⟨y, hy, hk, hs, by rw [hj]; simp; omega⟩
    · rintro ⟨z, hz, hzk, hzs, hzz⟩
      cases hf : fst1 1 s z.q p with
      | none => rw [hf] at hzz; simp at hzz
      | some j' =>
        rw [hf] at hzz
        simp at hzz
        have := hmax z hz hzk hzs j' hf
        omega

theorem pk_eq {rs : List Ru} {p : List Nt} {F : Fates} {W : List (Int × Int)} (h : AInv p F W) {x : Nt} : pk rs F W x = fk rs p x := by
  unfold pk fk
  rw [h.sent, h.got]
  cases ruleOf rs x.s with
  | none => rfl
  | some r =>
    simp only
    by_cases hk : x.k = 1
    · simp only [hk, if_true]
    · simp only [hk, if_false]
      cases hf : fst1 1 x.s x.q p with
      | none => simp
      | some i =>
        obtain ⟨h1, h2⟩ := h.ix _ _ _ hf
        simp only [Option.isSome_some, Bool.true_eq_false, if_false, h1, h2, ovt_eq h]

theorem fget_put (F : Fates) (s q : Int) (f : Fate) (s' q' : Int) : fget (mput F (s, q) f) s' q' = if s = s' ∧ q = q' then f else fget F s' q' := by
  unfold fget
  rw [mget_mput]
  by_cases h : s = s' ∧ q = q'
  · rw [if_pos (by rw [h.1, h.2]), if_pos h]; rfl
  · rw [if_neg (by intro e; simp only [Prod.mk.injEq] at e; exact h e), if_neg h]

theorem ainv_step {rs : List Ru} {p : List Nt} {F : Fates} {W : List (Int × Int)} (h : AInv p F W) {x : Nt} (hx : x.k = 1 ∨ x.k = 2) (h0 : fk rs p x = 0) : AInv (p ++ [x]) (lrnF p.length x F) (lrnW x F W) := by
  have hkd : ∀ y ∈ p ++ [x], y.k = 1 ∨ y.k = 2 := by
    intro y hy
    rw [List.mem_append] at hy
    rcases hy with hy | hy
    · exact h.kd y hy
    · simp at hy; subst hy; exact hx
  unfold fk at h0
  cases hr : ruleOf rs x.s with
  | none => rw [hr] at h0; simp at h0
  | some r =>
    rw [hr] at h0
    simp only at h0
    rcases hx with hk | hk
    · -- sent
      rw [if_pos hk] at h0
      have hn : fst1 1 x.s x.q p = none := by
        cases hf : fst1 1 x.s x.q p with
        | none => rfl
        | some i => rw [hf] at h0; simp at h0
      have hng : fst1 2 x.s x.q p = none := by
        cases hf : fst1 2 x.s x.q p with
        | none => rfl
        | some i =>
          obtain ⟨y, h1, h2⟩ := fst1_some hf
          rw [isN_iff] at h2
          obtain ⟨j, hj⟩ := h.uns y (List.mem_of_getElem? h1) h2.1
          rw [h2.2.1, h2.2.2, hn] at hj
          simp at hj
      have hi2 : ∀ s q, isN 2 s q x = false := fun s q => by simp [isN, hk]
      have hi1 : ∀ s q, isN 1 s q x = decide (x.s = s ∧ x.q = q) := fun s q => by simp [isN, hk]
      have f2 : ∀ s q, fst1 2 s q (p ++ [x]) = fst1 2 s q p := fun s q => by
        rw [fst1_app]
        cases fst1 2 s q p <;> simp [hi2]
      have f1 : ∀ s q, ¬ (x.s = s ∧ x.q = q) → fst1 1 s q (p ++ [x]) = fst1 1 s q p := fun s q hne => by
        rw [fst1_app]
        cases fst1 1 s q p <;> simp [hi1]
        exact fun a b => hne ⟨a, b⟩
      have f1x : fst1 1 x.s x.q (p ++ [x]) = some p.length := by rw [fst1_app, hn]; simp [hi1]
      have f1s : ∀ s q i, fst1 1 s q p = some i → fst1 1 s q (p ++ [x]) = some i := fun s q i hf => by rw [fst1_app, hf]
      simp only [lrnF, lrnW, if_pos hk]
      refine ⟨hkd, fun s q => ?_, fun s q => ?_, fun s q i hi => ?_, fun y hy hyk => ?_, fun s hs y hy hyk => ?_, fun s m hm => ?_⟩
      · rw [fget_put]
        by_cases hq : x.s = s ∧ x.q = q
        · rw [if_pos hq, ← hq.1, ← hq.2, f1x]; rfl
        · rw [if_neg hq, f1 s q hq]; exact h.sent s q
      · rw [fget_put, f2]
        by_cases hq : x.s = s ∧ x.q = q
        · rw [if_pos hq, ← hq.1, ← hq.2, hng]; rfl
        · rw [if_neg hq]; exact h.got s q
      · rw [fget_put]
        by_cases hq : x.s = s ∧ x.q = q
        · rw [if_pos hq]
          rw [← hq.1, ← hq.2, f1x] at hi
          simp only [Option.some.injEq] at hi
          subst hi
          exact ⟨rfl, by simp [tAt]⟩
        · rw [if_neg hq]
          rw [f1 s q hq] at hi
          obtain ⟨h1, h2⟩ := h.ix s q i hi
          exact ⟨h1, by rw [h2, tAt_app (fst1_lt hi)]⟩
      · rw [List.mem_append] at hy
        rcases hy with hy | hy
        · obtain ⟨j, hj⟩ := h.uns y hy hyk
          exact ⟨j, f1s _ _ _ hj⟩
        · simp at hy; subst hy; omega
      · rw [List.mem_append] at hy
        rcases hy with hy | hy
        · exact h.wn s hs y hy hyk
        · simp at hy; subst hy; omega
      · obtain ⟨⟨y, hy, hyk, hys, j, hj, hmj⟩, hmax⟩ := h.ws s m hm
        refine ⟨⟨y, by simp [hy], hyk, hys, j, f1s _ _ _ hj, hmj⟩, fun z hz hzk hzs j' hj' => ?_⟩
        rw [List.mem_append] at hz
        rcases hz with hz | hz
        · obtain ⟨j2, hj2⟩ := h.uns z hz hzk
          rw [hzs] at hj2
          rw [f1s _ _ _ hj2] at hj'
          simp only [Option.some.injEq] at hj'
          subst hj'
          exact hmax z hz hzk hzs _ hj2
        · simp at hz; subst hz; omega
    · -- received
      have hk1 : ¬ x.k = 1 := by omega
      rw [if_neg hk1] at h0
      cases hf : fst1 1 x.s x.q p with
      | none => rw [hf] at h0; simp at h0
      | some i =>
        rw [hf] at h0
        simp only at h0
        have hi1 : ∀ s q, isN 1 s q x = false := fun s q => by simp [isN, hk]
        have hi2 : ∀ s q, isN 2 s q x = decide (x.s = s ∧ x.q = q) := fun s q => by simp [isN, hk]
        have f1 : ∀ s q, fst1 1 s q (p ++ [x]) = fst1 1 s q p := fun s q => by
          rw [fst1_app]
          cases fst1 1 s q p <;> simp [hi1]
        have f2 : ∀ s q, ¬ (x.s = s ∧ x.q = q) → fst1 2 s q (p ++ [x]) = fst1 2 s q p := fun s q hne => by
          rw [fst1_app]
          cases fst1 2 s q p <;> simp [hi2]
          exact fun a b => hne ⟨a, b⟩
        have f2x : (fst1 2 x.s x.q (p ++ [x])).isSome = true := by
          rw [fst1_app]
          cases fst1 2 x.s x.q p <;> simp [hi2]
        obtain ⟨hix, hat⟩ := h.ix _ _ _ hf
        simp only [lrnF, lrnW, if_neg hk1]
        refine ⟨hkd, fun s q => ?_, fun s q => ?_, fun s q i' hi => ?_, fun y hy hyk => ?_, fun s hs y hy hyk => ?_, fun s m hm => ?_⟩
        · rw [fget_put, f1]
          by_cases hq : x.s = s ∧ x.q = q
          · rw [if_pos hq, ← hq.1, ← hq.2]; exact h.sent _ _
          · rw [if_neg hq]; exact h.sent s q
        · rw [fget_put]
          by_cases hq : x.s = s ∧ x.q = q
          · rw [if_pos hq, ← hq.1, ← hq.2, f2x]
          · rw [if_neg hq, f2 s q hq]; exact h.got s q
        · rw [f1] at hi
          rw [fget_put, tAt_app (fst1_lt hi)]
          by_cases hq : x.s = s ∧ x.q = q
          · rw [if_pos hq]
            obtain ⟨e1, e2⟩ := hq
            subst e1 e2
            exact h.ix _ _ _ hi
          · rw [if_neg hq]; exact h.ix _ _ _ hi
        · rw [f1]
          rw [List.mem_append] at hy
          rcases hy with hy | hy
          · exact h.uns y hy hyk
          · simp at hy; subst hy; exact ⟨i, hf⟩
        · rw [mget_mput] at hs
          split at hs
          · simp at hs
          · rename_i hne
            rw [List.mem_append] at hy
            rcases hy with hy | hy
            · exact h.wn s hs y hy hyk
            · simp at hy; subst hy; exact hne
        · rw [mget_mput] at hm
          split at hm
          · rename_i hxs
            subst hxs
            simp only [Option.some.injEq] at hm
            subst hm
            rw [hix]
            cases hw : mget W x.s with
            | none =>
              refine ⟨⟨x, by simp, hk, rfl, i, by rw [f1, hf], by simp⟩, fun z hz hzk hzs j' hj' => ?_⟩
              rw [List.mem_append] at hz
              rcases hz with hz | hz
              · exact absurd hzs (h.wn _ hw z hz hzk)
              · simp at hz; subst hz
                rw [f1, hf] at hj'
                simp only [Option.some.injEq] at hj'
                subst hj'
                simp
            | some m =>
              obtain ⟨⟨y, hy, hyk, hys, j, hj, hmj⟩, hmax⟩ := h.ws _ m hw
              simp only [Option.getD_some]
              refine ⟨?_, fun z hz hzk hzs j' hj' => ?_⟩
              · by_cases hle : m ≤ (i : Int)
                · exact ⟨x, by simp, hk, rfl, i, by rw [f1, hf], by omega⟩
                · exact ⟨y, by simp [hy], hyk, hys, j, by rw [f1]; exact hj, by omega⟩
              · rw [f1] at hj'
                rw [List.mem_append] at hz
                rcases hz with hz | hz
                · have := hmax z hz hzk hzs j' hj'; omega
                · simp at hz; subst hz
                  rw [hf] at hj'
                  simp only [Option.some.injEq] at hj'
                  subst hj'
                  omega
          · obtain ⟨⟨y, hy, hyk, hys, j, hj, hmj⟩, hmax⟩ := h.ws s m hm
            refine ⟨⟨y, by simp [hy], hyk, hys, j, by rw [f1]; exact hj, hmj⟩, fun z hz hzk hzs j' hj' => ?_⟩
            rename_i hne
            rw [f1] at hj'
            rw [List.mem_append] at hz
            rcases hz with hz | hz
            · exact hmax z hz hzk hzs j' hj'
            · simp at hz; subst hz; exact absurd hzs hne

end Go.Proofs.YthcaepnclhgkmaaDoor
