/- Slicing, literals of structs and arrays. -/
import Derived.Test.YtkamfflnfnjbeaaAbsOpA
import Derived.Laws.Tables
set_option linter.unusedSimpArgs false
set_option linter.unusedVariables false
namespace Go.Abs
open Go

variable {P : Program} {D : Dom} {β : Bet} {w : World}

def OptRep (D : Dom) (β : Bet) (w : World) : Option Value → Option AV → Prop
  | none, none => True
  | some v, some x => Rep D β w v x
  | _, _ => False

theorem run_sliceBound {v : Value} {x : AV} {n y : Nat} (h : Rep D β w v x) (hx : asNat x = some n) (hn : n ≤ y) (code : BoundsCode) : (Instr.sliceBound v y code).run P w = .ok n w := by
  obtain ⟨k, rfl⟩ := asNat_rep h hx
  have hc : (0 : Int) ≤ n ∧ (n : Int) ≤ y := by omega
  simp [Instr.sliceBound, run_asIntOf, Result.andThen, hc, Sem.run, pure]

/-- The three bounds of a slice expression, where they are in order. -/
theorem run_sliceBounds {isSlice : Bool} {len cap l u : Nat} {lo hi mx : Option Value} {xlo xhi xmx : Option AV} (h1 : OptRep D β w lo xlo) (h2 : OptRep D β w hi xhi) (h3 : OptRep D β w mx xmx)
    (hl : optNat 0 xlo = some l) (hu : optNat len xhi = some u) (hlu : l ≤ u) (hul : u ≤ len) (hlc : len ≤ cap) (hm : ∀ m, xmx = some m → asNat m = some u ∧ xhi.isSome = true) :
    (Instr.sliceBounds isSlice len cap lo hi mx).run P w = .ok (l, u, if xmx.isSome then u else cap) w := by
  have low : (lo = none ∧ l = 0) ∨ ∃ v, lo = some v ∧ ∀ code, (Instr.sliceBound v u code).run P w = .ok l w := by
    cases lo with
    | none => cases xlo with
      | none => simp [optNat] at hl; exact .inl ⟨rfl, hl.symm⟩
      | some _ => exact h1.elim
    | some v => cases xlo with
      | none => exact h1.elim
      | some x => exact .inr ⟨v, rfl, fun code => run_sliceBound h1 (by simpa [optNat] using hl) hlu code⟩
  cases mx with
  | none =>
    cases xmx with
    | some _ => exact h3.elim
    | none =>
      cases hi with
      | none => cases xhi with
        | some _ => exact h2.elim
        | none =>
          simp [optNat] at hu
          subst hu
          rcases low with ⟨rfl, rfl⟩ | ⟨v, rfl, hb⟩
          · simp [Instr.sliceBounds, Result.andThen, pure, Sem.run]
          · simp [Instr.sliceBounds, Result.andThen, pure, Sem.run, hb]
      | some v => cases xhi with
        | none => exact h2.elim
        | some x =>
          have hb2 := fun code => run_sliceBound (P := P) h2 (by simpa [optNat] using hu) (Nat.le_trans hul hlc) code
          rcases low with ⟨rfl, rfl⟩ | ⟨v, rfl, hb⟩
          · simp [Instr.sliceBounds, Result.andThen, pure, Sem.run, hb2]
          · simp [Instr.sliceBounds, Result.andThen, pure, Sem.run, hb, hb2]
  | some vm =>
    cases xmx with
    | none => exact h3.elim
    | some m =>
      obtain ⟨hm1, hm2⟩ := hm m rfl
      have hbm := fun code => run_sliceBound (P := P) h3 hm1 (Nat.le_trans hul hlc) code
      cases hi with
      | none => cases xhi with
        | some _ => exact h2.elim
        | none => simp at hm2
      | some v => cases xhi with
        | none => exact h2.elim
        | some x =>
          have hb2 := fun code => run_sliceBound (P := P) h2 (by simpa [optNat] using hu) (Nat.le_refl u) code
          rcases low with ⟨rfl, rfl⟩ | ⟨v, rfl, hb⟩
          · simp [Instr.sliceBounds, Result.andThen, pure, Sem.run, hb2, hbm]
          · simp [Instr.sliceBounds, Result.andThen, pure, Sem.run, hb, hb2, hbm]

theorem drop_take_get {α : Type} (xs : List α) (l u i : Nat) : ((xs.take u).drop l)[i]? = if l + i < u then xs[l + i]? else none := by
  rw [List.getElem?_drop, List.getElem?_take]

/-- A cut of a slice that reads as a list reads as the cut of the list. -/
theorem RepT.cut {a : Option Addr} {len cap : Nat} {clip : Bool} {k : Nat} {xs : List T} (h : RepT D w (.slice a len cap) (.sl clip k xs)) {l u m : Nat} (hlu : l ≤ u) (hul : u ≤ xs.length) (hum : u ≤ m) (hmc : m ≤ cap)
    (clip' : Bool) (hcl : clip' = true → m = u) : RepT D w (.slice (if m = l then a else a.map (·.add (l * k))) (u - l) (m - l)) (.sl clip' k ((xs.take u).drop l)) := by
  by_cases he : u = l
  · subst he
    have e : (xs.take u).drop u = [] := by simp
    rw [e, Nat.sub_self]
    exact .nosl _ _ _ _ (fun hc => by rw [hcl hc]; omega)
  · cases h with
    | nosl => simp at hul; omega
    | sl b off _ _ _ _ _ hD hlen hcap hclip hk c hc hr =>
      rw [if_neg (by omega)]
      simp only [Option.map_some, addr_add]
      refine .sl b (off + l * k) _ _ clip' k _ hD (by simp; omega) (by omega) (fun hc => by rw [hcl hc]) (fun i x hx => ?_) (fun j => c (l * k + j)) (fun j hj => ?_) (fun i x j t hx ht => ?_)
      · rw [drop_take_get] at hx
        split at hx
        · exact hk _ x hx
        · simp at hx
      · rw [Nat.add_assoc]
        refine hc _ ?_
        have h1 : (u - l) * k + l * k = u * k := by rw [← Nat.add_mul]; congr 1; omega
        have h2 : u * k ≤ len * k := Nat.mul_le_mul_right k (by omega)
        omega
      · rw [drop_take_get] at hx
        split at hx
        · have := hr _ x j t hx ht
          have e : (l + i) * k + j = l * k + (i * k + j) := by rw [Nat.add_mul]; omega
          rwa [e] at this
        · simp at hx

theorem Rep.slice_form {v : Value} {clip : Bool} {k : Nat} {xs : List T} (h : RepT D w v (.sl clip k xs)) : ∃ a cap, v = .slice a xs.length cap ∧ xs.length ≤ cap ∧ (clip = true → cap = xs.length) := by
  cases h with
  | nosl a cap _ _ hc => exact ⟨a, cap, rfl, by simp, by simpa using hc⟩
  | sl b off len cap _ _ _ hD hlen hcap hclip hk c hc hr => subst hlen; exact ⟨_, cap, rfl, hcap, hclip⟩

theorem ms_form {v : Value} {o e i len k : Nat} {clip : Bool} (h : Rep D β w v (.ms o e i len k clip)) : ∃ a cap, v = .slice a len cap ∧ len ≤ cap ∧ (clip = true → cap = len) := by
  cases h with
  | ms0 a => exact ⟨a, 0, rfl, Nat.le_refl _, fun _ => rfl⟩
  | ms _ _ _ _ _ _ b cap n hb hle hcap hclip hn hsz => exact ⟨_, cap, rfl, hcap, hclip⟩

theorem Rep.msCut {a : Option Addr} {len cap o e i k : Nat} {clip : Bool} (h : Rep D β w (.slice a len cap) (.ms o e i len k clip)) {l u m : Nat} (hlu : l ≤ u) (hul : u ≤ len) (hum : u ≤ m) (hmc : m ≤ cap)
    (clip' : Bool) (hcl : clip' = true → m = u) : Rep D β w (.slice (if m = l then a else a.map (·.add (l * k))) (u - l) (m - l)) (.ms o e (i + l) (u - l) k clip') := by
  cases h with
  | ms0 =>
    have h1 : u - l = 0 := by omega
    have h2 : m - l = 0 := by omega
    rw [h1, h2]
    exact .ms0 _ _ _ _ _ _
  | ms _ _ _ _ _ _ b _ n hb hle hcap hclip hn hsz =>
    by_cases hml : m = l
    · have h1 : u - l = 0 := by omega
      have h2 : m - l = 0 := by omega
      rw [h1, h2]
      exact .ms0 _ _ _ _ _ _
    · rw [if_neg hml]
      simp only [Option.map_some, addr_add]
      have e1 : i * k + l * k = (i + l) * k := by rw [Nat.add_mul]
      rw [e1]
      refine .ms o e (i + l) (u - l) k clip' b (m - l) n hb (by omega) (by omega) (fun hc => by rw [hcl hc]) hn ?_
      have h1 : i + l + (m - l) = i + m := by omega
      rw [h1]
      exact Nat.le_trans (Nat.mul_le_mul_right k (by omega)) hsz

theorem aSlice_run {t : TypeId} {x y : AV} {lo hi mx : Option AV} {vx : Value} {vlo vhi vmx : Option Value} (h : aSlice P t x lo hi mx = some y) (hx : Rep D β w vx x)
    (h1 : OptRep D β w vlo lo) (h2 : OptRep D β w vhi hi) (h3 : OptRep D β w vmx mx) : ∃ v, (Instr.sliceAt t vx vlo vhi vmx).run P w = .ok v w ∧ Rep D β w v y := by
  unfold aSlice at h
  split at h
  · rename_i s ht
    obtain ⟨rfl, _⟩ := hx.toT.sc_eq
    split at h
    · rename_i l u hl hu
      by_cases hc : l ≤ u ∧ u ≤ s.size
      · rw [if_pos hc] at h
        simp at h
        subst h
        cases vmx with
        | some _ => exact h3.elim
        | none =>
          refine ⟨_, ?_, .t _ _ (.sc _ rfl)⟩
          have hb := run_sliceBounds (P := P) (isSlice := false) (len := s.size) (cap := s.size) h1 h2 h3 hl hu hc.1 hc.2 (Nat.le_refl _) (fun m hm => by simp at hm)
          simp only [Instr.sliceAt, Instr.slice, Sem.run_bind, run_underlying ht, Result.andThen, Option.isSome_none, Bool.false_eq_true, if_false, pure, Sem.run, hb]
      · simp [hc] at h
    · simp at h
  · rename_i elem clip k xs ht
    split at h
    · rename_i size l u hs hl hu
      by_cases hc : l ≤ u ∧ u ≤ xs.length ∧ k = size
      · rw [if_pos hc] at h
        obtain ⟨hlu, hul, rfl⟩ := hc
        obtain ⟨a, cap, rfl, hcap, hclip⟩ := Rep.slice_form hx.toT
        split at h
        · simp at h
          subst h
          have hb := run_sliceBounds (P := P) (isSlice := true) (len := xs.length) (cap := cap) h1 h2 h3 hl hu hlu hul hcap (fun m hm => by simp at hm)
          refine ⟨.slice (if cap = l then a else a.map (·.add (l * k))) (u - l) (cap - l), ?_, .t _ _ (hx.toT.cut hlu hul (by omega) (Nat.le_refl _) _ ?_)⟩
          · simp [Instr.sliceAt, Instr.slice, run_underlying ht, Result.andThen, hb, run_sizeOf hs, pure, Sem.run]
          · intro hcl
            simp at hcl
            rw [hclip hcl.1, hcl.2]
        · rename_i m
          split at h
          · rename_i m' hm
            by_cases hmu : m' = u ∧ hi.isSome = true
            · rw [if_pos hmu] at h
              simp at h
              subst h
              obtain ⟨rfl, hhi⟩ := hmu
              have hb := run_sliceBounds (P := P) (isSlice := true) (len := xs.length) (cap := cap) h1 h2 h3 hl hu hlu hul hcap (fun m2 hm2 => by simp at hm2; subst hm2; exact ⟨hm, hhi⟩)
              refine ⟨.slice (if m' = l then a else a.map (·.add (l * k))) (m' - l) (m' - l), ?_, .t _ _ (hx.toT.cut hlu hul (Nat.le_refl _) (by omega) _ (fun _ => rfl))⟩
              simp [Instr.sliceAt, Instr.slice, run_underlying ht, Result.andThen, hb, run_sizeOf hs, pure, Sem.run]
            · simp [hmu] at h
          · simp at h
      · simp [hc] at h
    · simp at h
  · rename_i elem ht
    obtain ⟨rfl, _⟩ := hx.toT.sc_eq
    split at h
    · rename_i size hs hl hu hm
      by_cases hc : mx.isSome = true ∧ hi.isSome = false
      · simp [hc] at h
      · rw [if_neg hc] at h
        simp at h
        subst h
        have hb := run_sliceBounds (P := P) (isSlice := true) (len := 0) (cap := 0) h1 h2 h3 hl hu (Nat.le_refl _) (Nat.le_refl _) (Nat.le_refl _) (fun m2 hm2 => by
          subst hm2
          refine ⟨by simpa [optNat] using hm, ?_⟩
          cases hi <;> simp at hc ⊢)
        refine ⟨_, ?_, hx⟩
        cases mx <;> simp [Instr.sliceAt, Instr.slice, run_underlying ht, Result.andThen, hb, run_sizeOf hs, pure, Sem.run]
    · simp at h
  · rename_i elem o e i len k clip ht
    split at h
    · rename_i size l u hs hl hu
      by_cases hc : l ≤ u ∧ u ≤ len ∧ k = size
      · rw [if_pos hc] at h
        obtain ⟨hlu, hul, rfl⟩ := hc
        obtain ⟨a, cap, rfl, hcap, hclip⟩ := ms_form hx
        split at h
        · simp at h
          subst h
          have hb := run_sliceBounds (P := P) (isSlice := true) (len := len) (cap := cap) h1 h2 h3 hl hu hlu hul hcap (fun m hm => by simp at hm)
          refine ⟨.slice (if cap = l then a else a.map (·.add (l * k))) (u - l) (cap - l), ?_, hx.msCut hlu hul (by omega) (Nat.le_refl _) _ ?_⟩
          · simp [Instr.sliceAt, Instr.slice, run_underlying ht, Result.andThen, hb, run_sizeOf hs, pure, Sem.run]
          · intro hcl
            simp at hcl
            rw [hclip hcl.1, hcl.2]
        · rename_i m
          split at h
          · rename_i m' hm
            by_cases hmu : m' = u ∧ hi.isSome = true
            · rw [if_pos hmu] at h
              simp at h
              subst h
              obtain ⟨rfl, hhi⟩ := hmu
              have hb := run_sliceBounds (P := P) (isSlice := true) (len := len) (cap := cap) h1 h2 h3 hl hu hlu hul hcap (fun m2 hm2 => by simp at hm2; subst hm2; exact ⟨hm, hhi⟩)
              refine ⟨.slice (if m' = l then a else a.map (·.add (l * k))) (m' - l) (m' - l), ?_, hx.msCut hlu hul (Nat.le_refl _) (by omega) _ (fun _ => rfl)⟩
              simp [Instr.sliceAt, Instr.slice, run_underlying ht, Result.andThen, hb, run_sizeOf hs, pure, Sem.run]
            · simp [hmu] at h
          · simp at h
      · simp [hc] at h
    · simp at h
  · simp at h

end Go.Abs
