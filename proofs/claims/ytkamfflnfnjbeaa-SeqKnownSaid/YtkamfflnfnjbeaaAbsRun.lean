/- What the model's own small computations come to, given what the evaluator has looked up. -/
import Derived.Test.YtkamfflnfnjbeaaAbsVal
set_option linter.unusedSimpArgs false
set_option linter.unusedVariables false
namespace Go.Abs
open Go

variable {P : Program}

theorem pureRun_run {α : Type} {m : Sem α} {a : α} (h : pureRun P m = some a) (w : World) : m.run P w = .ok a w := by
  induction m with
  | pure x => simp [pureRun] at h; subst h; rfl
  | program k ih => simp only [pureRun] at h; simp only [Sem.run]; exact ih P h
  | _ => simp [pureRun] at h

theorem run_underlying {t : TypeId} {d : TypeDesc} (h : typ P t = some d) (w : World) : (underlying t).run P w = .ok d w := by
  simp only [typ] at h
  simp [underlying, program, Sem.run, h, bind, Sem.bind, pure]

theorem run_typeInfo {t : TypeId} {i : TypeInfo} (h : P.info? t = some i) (w : World) : (typeInfo t).run P w = .ok i w := by
  simp [typeInfo, program, Sem.run, h, bind, Sem.bind, pure]

theorem szOf_info {t : TypeId} {n : Nat} (h : szOf P t = some n) : ∃ i, P.info? t = some i ∧ i.size = n := by
  unfold szOf at h
  cases hi : P.info? t with
  | none => simp [hi] at h
  | some i => simp [hi] at h; exact ⟨i, rfl, h⟩

theorem byOf_info {t : TypeId} {n : Nat} (h : byOf P t = some n) : ∃ i, P.info? t = some i ∧ i.bytes = n := by
  unfold byOf at h
  cases hi : P.info? t with
  | none => simp [hi] at h
  | some i => simp [hi] at h; exact ⟨i, rfl, h⟩

theorem run_sizeOf {t : TypeId} {n : Nat} (h : szOf P t = some n) (w : World) : (Go.sizeOf t).run P w = .ok n w := by
  obtain ⟨i, hi, rfl⟩ := szOf_info h
  simp [Go.sizeOf, run_typeInfo hi, Result.andThen]

theorem zeroOf_val {t : TypeId} {z : T} (h : zeroOf P t = some z) : ∃ v, okVal v = true ∧ z = ofVal v ∧ ∀ w, (zeroValue t).run P w = .ok v w := by
  unfold zeroOf at h
  cases hi : P.info? t with
  | none => simp [hi] at h
  | some i =>
    simp only [hi] at h
    cases hz : i.zero with
    | none => simp [hz] at h
    | some v =>
      simp only [hz] at h
      by_cases ho : okVal v = true
      · simp [ho] at h
        exact ⟨v, ho, h.symm, fun w => by simp [zeroValue, run_typeInfo hi, Result.andThen, hz, Sem.run, pure]⟩
      · simp [ho] at h

theorem run_isAgg {t : TypeId} {b : Bool} (h : aggB P t = some b) (w : World) : (isAgg t).run P w = .ok b w := by
  unfold aggB at h
  cases hd : P.underlying t with
  | none => simp [hd] at h
  | some d =>
    simp only [hd] at h
    simp only [isAgg, Sem.run_bind, run_underlying (t := t) (d := d) hd, Result.andThen]
    cases d <;> simp at h <;> subst h <;> rfl

theorem addr_add (b off n : Nat) : (⟨b, off, none⟩ : Addr).add n = ⟨b, off + n, none⟩ := by
  unfold Addr.add
  by_cases h : n = 0
  · simp [h]
  · simp [h]

theorem run_load {w : World} {a : Addr} {v : Value} (h : w.cell? a = some v) : (load a).run P w = .ok v w := by
  simp [load, Sem.run, h]

theorem run_loadCellsFrom {w : World} {b off : Nat} {c : Nat → Value} (n i : Nat) (acc : Array Value) (h : ∀ j, i ≤ j → j < i + n → w.cell? ⟨b, off + j, none⟩ = some (c j)) :
    (loadCellsFrom ⟨b, off, none⟩ i n acc).run P w = .ok (acc ++ ((List.range' i n).map c).toArray) w := by
  induction n generalizing i acc with
  | zero => simp [loadCellsFrom, Sem.run, pure]
  | succ n ih =>
    have h0 : w.cell? ((⟨b, off, none⟩ : Addr).add i) = some (c i) := by rw [addr_add]; exact h i (Nat.le_refl _) (by omega)
    simp only [loadCellsFrom, Sem.run_bind, run_load h0, Result.andThen]
    rw [ih (i + 1) (acc.push (c i)) (fun j h1 h2 => h j (by omega) (by omega))]
    congr 1
    apply Array.ext'
    simp [List.range'_succ]

theorem run_loadCells {w : World} {b off : Nat} {c : Nat → Value} (n : Nat) (h : ∀ j, j < n → w.cell? ⟨b, off + j, none⟩ = some (c j)) :
    (loadCells ⟨b, off, none⟩ n).run P w = .ok ((List.range n).map c).toArray w := by
  have := run_loadCellsFrom (P := P) (w := w) (b := b) (off := off) (c := c) n 0 #[] (fun j _ h2 => h j (by omega))
  simpa [loadCells, List.range_eq_range'] using this

/-- A world with the cells of a list written into a block from a place on. -/
def wrote (w : World) (b off : Nat) : List Value → World
  | [] => w
  | v :: r => wrote (w.setCell ⟨b, off, none⟩ v) b (off + 1) r

theorem wrote_facts (vs : List Value) : ∀ (w : World) (b off : Nat) (c : Array Value) (ty : TypeId) (fr : Nat × Nat), w.heap[b]? = some (.cells c ty fr) → off + vs.length ≤ c.size →
    (wrote w b off vs).heap.size = w.heap.size ∧ (wrote w b off vs).os = w.os ∧ (wrote w b off vs).output = w.output ∧
    (∀ b', b' ≠ b → (wrote w b off vs).heap[b']? = w.heap[b']?) ∧
    ∃ c', (wrote w b off vs).heap[b]? = some (.cells c' ty fr) ∧ c'.size = c.size ∧ ∀ j : Nat, c'[j]? = if off ≤ j ∧ j < off + vs.length then vs[j - off]? else c[j]? := by
  induction vs with
  | nil =>
    intro w b off c ty fr hb hl
    refine ⟨rfl, rfl, rfl, fun _ _ => rfl, c, hb, rfl, fun j => ?_⟩
    rw [if_neg (by simp only [List.length_nil]; omega)]
  | cons v r ih =>
    intro w b off c ty fr hb hl
    have hl' : off < c.size := by simp at hl; omega
    have hlt : b < w.heap.size := (Array.getElem?_eq_some_iff.1 hb).1
    have h1 : (w.setCell ⟨b, off, none⟩ v).heap[b]? = some (.cells (c.setIfInBounds off v) ty fr) := by
      simp only [World.setCell, Array.getElem?_modify, if_true, hb, Option.map_some]
      rfl
    obtain ⟨e1, e2, e3, e4, c', e5, e6, e7⟩ := ih (w.setCell ⟨b, off, none⟩ v) b (off + 1) _ ty fr h1 (by simp at hl ⊢; omega)
    refine ⟨?_, ?_, ?_, ?_, c', e5, ?_, ?_⟩
    · simp only [wrote]; rw [e1]; simp
    · simp only [wrote]; rw [e2]; rfl
    · simp only [wrote]; rw [e3]; rfl
    · intro b' hb'
      simp only [wrote]
      rw [e4 b' hb']
      simp only [World.setCell, Array.getElem?_modify]
      rw [if_neg (fun h => hb' h.symm)]
    · rw [e6]; simp
    · intro j
      rw [e7 j]
      by_cases hj : off + 1 ≤ j ∧ j < off + 1 + r.length
      · rw [if_pos hj, if_pos (by simp; omega)]
        have : j - off = (j - (off + 1)) + 1 := by omega
        rw [this]; simp
      · rw [if_neg hj]
        by_cases hj2 : j = off
        · subst hj2
          rw [if_pos (by simp)]
          simp [hl']
        · rw [if_neg (by simp; omega)]
          simp [Array.getElem?_setIfInBounds, Ne.symm hj2]

theorem run_storeCells (vs : List Value) : ∀ (w : World) (b off i : Nat) (c : Array Value) (ty : TypeId), w.heap[b]? = some (.cells c ty (0, 0)) → off + i + vs.length ≤ c.size → (∀ v ∈ vs, okCell v = true) →
    (storeCells ⟨b, off, none⟩ vs i).run P w = .ok () (wrote w b (off + i) vs) := by
  induction vs with
  | nil => intro w b off i c ty _ _ _; simp [storeCells, Sem.run, pure, wrote]
  | cons v r ih =>
    intro w b off i c ty hb hl ho
    have hl' : off + i < c.size := by simp at hl; omega
    have hc : w.cell? ⟨b, off + i, none⟩ = some c[off + i] := by simp [World.cell?, hb, hl']
    have hf : w.frozen? ⟨b, off + i, none⟩ = false := by simp [World.frozen?, hb]
    have hv : okCell v = true := ho v (by simp)
    have hst : (store ((⟨b, off, none⟩ : Addr).add i) v).run P w = .ok () (w.setCell ⟨b, off + i, none⟩ v) := by
      rw [addr_add]
      unfold store
      cases v <;> first | (simp only [Sem.run, hc, hf]; rfl) | (simp [okCell] at hv)
    have h1 : (w.setCell ⟨b, off + i, none⟩ v).heap[b]? = some (.cells (c.setIfInBounds (off + i) v) ty (0, 0)) := by
      simp only [World.setCell, Array.getElem?_modify, if_true, hb, Option.map_some]
      rfl
    simp only [storeCells, Sem.run_bind, hst, Result.andThen]
    rw [ih (w.setCell ⟨b, off + i, none⟩ v) b off (i + 1) _ ty h1 (by simp at hl ⊢; omega) (fun u hu => ho u (by simp [hu]))]
    simp only [wrote]
    rfl

theorem run_newRow (w : World) (ty : TypeId) (c : Array Value) : (Go.newRow ty c).run P w = .ok ⟨w.heap.size, 0, none⟩ (w.alloc (.cells c ty (0, 0))) := by
  rfl

end Go.Abs
