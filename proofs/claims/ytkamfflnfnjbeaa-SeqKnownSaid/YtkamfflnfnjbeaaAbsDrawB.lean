/- The orders that a region may draw: each lists every operation once, behind those that it waits for. -/
import Derived.Test.YtkamfflnfnjbeaaAbsDrawA
set_option linter.unusedSimpArgs false
set_option linter.unusedVariables false
namespace Go.Abs
open Go

variable {ops : Array Oper}

/-- S: what has been run. The list runs the rest, each operation behind those that it waits for. -/
def Valid (ops : Array Oper) : (Nat → Prop) → List Nat → Prop
  | S, [] => ∀ i, i < ops.size → S i
  | S, i :: l => ¬ S i ∧ (∃ o, ops[i]? = some o ∧ ∀ e ∈ o.after, Region.binds .any e = true → S e.on) ∧ Valid ops (fun j => S j ∨ j = i) l

theorem Valid.congr {S S' : Nat → Prop} {l : List Nat} (hs : ∀ i, S i ↔ S' i) (hv : Valid ops S l) : Valid ops S' l := by
  have : S = S' := funext fun i => propext (hs i)
  exact this ▸ hv

/-- How many are not listed. -/
def unlisted (l : Array Bool) : Nat := l.toList.countP (fun b => !b)

theorem unlisted_set {l : Array Bool} {i : Nat} (hi : l[i]? = some false) : unlisted l = unlisted (l.setIfInBounds i true) + 1 := by
  unfold unlisted
  rw [Array.toList_setIfInBounds]
  have h' : l.toList[i]? = some false := by simpa using hi
  clear hi
  generalize l.toList = xs at h'
  induction xs generalizing i with
  | nil => simp at h'
  | cons x xs ih =>
    cases i with
    | zero => simp at h'; subst h'; simp
    | succ i =>
      have := ih (i := i) (by simpa using h')
      simp only [List.set_cons_succ, List.countP_cons]
      omega

theorem exists_unlisted {l : Array Bool} (hu : 0 < unlisted l) : ∃ i : Nat, l[i]? = some false ∧ ∀ j : Nat, j < i → l[j]? = some true := by
  unfold unlisted at hu
  have key : ∀ xs : List Bool, 0 < xs.countP (fun b => !b) → ∃ i : Nat, xs[i]? = some false ∧ ∀ j : Nat, j < i → xs[j]? = some true := by
    intro xs
    induction xs with
    | nil => intro h; simp at h
    | cons x xs ih =>
      intro h
      cases x with
      | false => exact ⟨0, rfl, fun j hj => by omega⟩
      | true =>
        obtain ⟨i, h1, h2⟩ := ih (by simpa using h)
        refine ⟨i + 1, by simpa using h1, fun j hj => ?_⟩
        cases j with
        | zero => rfl
        | succ j => simpa using h2 j (by omega)
  obtain ⟨i, h1, h2⟩ := key l.toList hu
  exact ⟨i, by simpa using h1, fun j hj => by simpa using h2 j hj⟩

theorem go_valid (hedge : ∀ (i : Nat) o, ops[i]? = some o → ∀ e ∈ o.after, Region.binds .any e = true → e.on < i) : ∀ (fuel t : Nat) (listed : Array Bool) (acc : List Nat), listed.size = ops.size → unlisted listed = fuel →
    ∃ l, Region.linearise.go .any ops fuel t listed acc = acc.reverse ++ l ∧ Valid ops (fun i => listed.getD i false = true) l := by
  intro fuel
  induction fuel with
  | zero =>
    intro t listed acc hs hu
    refine ⟨[], by simp [Region.linearise.go], fun i hi => ?_⟩
    have hi' : i < listed.size := by omega
    unfold unlisted at hu
    rw [List.countP_eq_zero] at hu
    have := hu listed[i] (by simp)
    show listed.getD i false = true
    rw [Array.getD_eq_getD_getElem?, Array.getElem?_eq_getElem hi']
    simpa using this
  | succ fuel ih =>
    intro t listed acc hs hu
    simp only [Region.linearise.go]
    generalize hrs : (List.range ops.size).filter (fun i => !listed.getD i true && ((ops[i]?).map (·.after.all fun e => !Region.binds .any e || listed.getD e.on false)).getD false) = rs
    have hne : rs ≠ [] := by
      obtain ⟨i, h1, h2⟩ := exists_unlisted (l := listed) (by omega)
      have hi : i < ops.size := by rw [← hs]; exact (Array.getElem?_eq_some_iff.1 h1).1
      have hm : i ∈ rs := by
        rw [← hrs, List.mem_filter]
        refine ⟨by simp [hi], ?_⟩
        have ho : ops[i]? = some ops[i] := by simp [hi]
        simp only [Array.getD_eq_getD_getElem?, h1, ho, Option.getD_some, Option.map_some, Bool.not_false, Bool.true_and]
        rw [Array.all_eq_true_iff_forall_mem]
        intro e he
        by_cases hb : Region.binds .any e = true
        · have := h2 _ (hedge i _ ho e he hb)
          simp [this]
        · simp [hb]
      intro e
      rw [e] at hm
      cases hm
    have hlt : t % rs.length < rs.length := Nat.mod_lt _ (List.length_pos_iff.2 hne)
    rw [List.getElem?_eq_getElem hlt]
    simp only
    have hmem : rs[t % rs.length] ∈ rs := List.getElem_mem hlt
    generalize rs[t % rs.length] = i at hmem
    rw [← hrs, List.mem_filter] at hmem
    obtain ⟨hi, hc⟩ := hmem
    have hi : i < ops.size := by simpa using hi
    have hi' : i < listed.size := by omega
    have ho : ops[i]? = some ops[i] := by simp [hi]
    simp only [Bool.and_eq_true] at hc
    have hf : listed[i]? = some false := by
      have := hc.1
      rw [Array.getD_eq_getD_getElem?, Array.getElem?_eq_getElem hi'] at this
      rw [Array.getElem?_eq_getElem hi']
      simpa using this
    obtain ⟨l, hl, hv⟩ := ih (t / rs.length) (listed.setIfInBounds i true) (i :: acc) (by simp [hs]) (by have := unlisted_set hf; omega)
    refine ⟨i :: l, by rw [hl]; simp, ?_, ⟨_, ho, fun e he hb => ?_⟩, hv.congr fun j => ?_⟩
    · simp [Array.getD_eq_getD_getElem?, hf]
    · have h2 := hc.2
      rw [ho] at h2
      simp only [Option.map_some, Option.getD_some] at h2
      rw [Array.all_eq_true_iff_forall_mem] at h2
      have := h2 e he
      simpa [hb] using this
    · show (listed.setIfInBounds i true).getD j false = true ↔ listed.getD j false = true ∨ j = i
      rw [Array.getD_eq_getD_getElem?, Array.getD_eq_getD_getElem?, Array.getElem?_setIfInBounds]
      by_cases hj : i = j
      · subst hj; simp [hi']
      · have hj' : ¬ j = i := fun e => hj e.symm
        simp [hj, hj']

theorem schedule_valid (hedge : ∀ (i : Nat) o, ops[i]? = some o → ∀ e ∈ o.after, Region.binds .any e = true → e.on < i) (t : Nat) : Valid ops (fun _ => False) (Region.schedule true ops t) := by
  obtain ⟨l, hl, hv⟩ := go_valid hedge ops.size t (Array.replicate ops.size false) [] (by simp) (by simp [unlisted, List.countP_replicate])
  have e : Region.schedule true ops t = l := by
    simp only [Region.schedule, Bool.true_or, if_true, Region.linearise]
    rw [hl]; simp
  rw [e]
  refine hv.congr fun i => ?_
  show (Array.replicate ops.size false).getD i false = true ↔ False
  rw [Array.getD_eq_getD_getElem?, Array.getElem?_replicate]
  split <;> simp

end Go.Abs
