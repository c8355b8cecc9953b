/- Literals of structs and arrays; comparisons. -/
import Derived.Test.YtkamfflnfnjbeaaAbsOpB
import Derived.ChangeKeysEq
set_option linter.unusedSimpArgs false
set_option linter.unusedVariables false
namespace Go.Abs
open Go

variable {P : Program} {D : Dom} {β : Bet} {w : World}

theorem foldl_set_list (vs : List Value) : ∀ (n off : Nat) (cells : Array Value), off + n + vs.length ≤ cells.size →
    ((vs.zipIdx n).foldl (fun cs (x : Value × Nat) => cs.setIfInBounds (off + x.2) x.1) cells).size = cells.size ∧
    ∀ i : Nat, ((vs.zipIdx n).foldl (fun cs (x : Value × Nat) => cs.setIfInBounds (off + x.2) x.1) cells)[i]? = if off + n ≤ i ∧ i < off + n + vs.length then vs[i - (off + n)]? else cells[i]? := by
  induction vs with
  | nil => intro n off cells _; refine ⟨rfl, fun i => ?_⟩; rw [if_neg (by simp only [List.length_nil]; omega)]; rfl
  | cons v r ih =>
    intro n off cells hl
    simp only [List.length_cons] at hl
    obtain ⟨h1, h2⟩ := ih (n + 1) off (cells.setIfInBounds (off + n) v) (by simp; omega)
    simp only [List.zipIdx_cons, List.foldl_cons]
    refine ⟨by rw [h1]; simp, fun i => ?_⟩
    rw [h2 i]
    by_cases hi : off + (n + 1) ≤ i ∧ i < off + (n + 1) + r.length
    · rw [if_pos hi, if_pos (by simp only [List.length_cons]; omega)]
      have : i - (off + n) = (i - (off + (n + 1))) + 1 := by omega
      rw [this]; simp
    · rw [if_neg hi]
      by_cases hi2 : i = off + n
      · subst hi2
        rw [if_pos (by simp only [List.length_cons]; omega)]
        have : off + n < cells.size := by omega
        simp [this]
      · rw [if_neg (by simp only [List.length_cons]; omega)]
        simp [Array.getElem?_setIfInBounds, Ne.symm hi2]

theorem splice_length {cs vs : List AV} {off : Nat} (h : off + vs.length ≤ cs.length) : (splice cs off vs).length = cs.length := by
  simp [splice]; omega

theorem splice_get {cs vs : List AV} {off : Nat} (h : off + vs.length ≤ cs.length) (i : Nat) : (splice cs off vs)[i]? = if off ≤ i ∧ i < off + vs.length then vs[i - off]? else cs[i]? := by
  unfold splice
  by_cases h1 : i < off
  · rw [if_neg (by omega)]
    rw [List.append_assoc, List.getElem?_append_left (by simp; omega)]
    rw [List.getElem?_take, if_pos h1]
  · have hlen : (cs.take off).length = off := by simp; omega
    rw [List.append_assoc, List.getElem?_append_right (by omega), hlen]
    by_cases h2 : i < off + vs.length
    · rw [if_pos (by omega), List.getElem?_append_left (by omega)]
    · rw [if_neg (by omega), List.getElem?_append_right (by omega), List.getElem?_drop]
      congr 1; omega

/-- Parts of a literal, one by one. -/
def PartsRep (D : Dom) (β : Bet) (w : World) (ps : List (Nat × Value)) (qs : List (Nat × AV)) : Prop :=
  ps.length = qs.length ∧ ∀ (i : Nat) p q, ps[i]? = some p → qs[i]? = some q → p.1 = q.1 ∧ Rep D β w p.2 q.2

theorem PartsRep.cons {p : Nat × Value} {ps : List (Nat × Value)} {q : Nat × AV} {qs : List (Nat × AV)} (h : PartsRep D β w (p :: ps) (q :: qs)) : p.1 = q.1 ∧ Rep D β w p.2 q.2 ∧ PartsRep D β w ps qs := by
  have h0 := h.2 0 p q rfl rfl
  refine ⟨h0.1, h0.2, by simpa using h.1, fun i a b ha hb => h.2 (i + 1) a b (by simpa using ha) (by simpa using hb)⟩

theorem fill_rel {place : Nat → Option (Nat × Nat)} (qs : List (Nat × AV)) : ∀ (ps : List (Nat × Value)) (C : Array Value) (L L' : List AV), PartsRep D β w ps qs → C.size = L.length →
    (∀ (i : Nat) v x, C[i]? = some v → L[i]? = some x → Rep D β w v x) → fill place L qs = some L' →
    ∃ C', Instr.fill place C ps = some C' ∧ C'.size = L'.length ∧ ∀ (i : Nat) v x, C'[i]? = some v → L'[i]? = some x → Rep D β w v x := by
  induction qs with
  | nil =>
    intro ps C L L' hp hl hr hf
    cases ps with
    | nil => simp [fill] at hf; subst hf; exact ⟨C, rfl, hl, hr⟩
    | cons p r => simp [PartsRep] at hp
  | cons q qs ih =>
    intro ps C L L' hp hl hr hf
    cases ps with
    | nil => simp [PartsRep] at hp
    | cons p ps =>
      obtain ⟨h1, h2, h3⟩ := hp.cons
      obtain ⟨i, v⟩ := p
      obtain ⟨i', x⟩ := q
      simp only at h1 h2
      subst h1
      simp only [fill] at hf
      cases hpl : place i with
      | none => simp [hpl] at hf
      | some os =>
        obtain ⟨off, size⟩ := os
        simp only [hpl] at hf
        by_cases hc : x.cells.length = size ∧ 0 < size ∧ off + size ≤ L.length
        · rw [if_pos hc] at hf
          obtain ⟨hc1, hc2, hc3⟩ := hc
          have hcell := h2.cells (cells_ne_dead (by omega))
          have hsz : v.cells.size = size := by rw [hcell.1, hc1]
          have hfold : (v.cells.zipIdx.foldl (fun cs (x : Value × Nat) => cs.setIfInBounds (off + x.2) x.1) C) = ((v.cells.toList.zipIdx 0).foldl (fun cs (x : Value × Nat) => cs.setIfInBounds (off + x.2) x.1) C) := by
            rw [← Array.foldl_toList, Array.toList_zipIdx]
          obtain ⟨g1, g2⟩ := foldl_set_list v.cells.toList 0 off C (by simp [hsz]; omega)
          obtain ⟨C', e1, e2, e3⟩ := ih ps (v.cells.zipIdx.foldl (fun cs (x : Value × Nat) => cs.setIfInBounds (off + x.2) x.1) C) (splice L off x.cells) L' h3
            (by rw [hfold, g1, splice_length (by omega)]; exact hl)
            (fun j u y hu hy => by
              rw [hfold, g2 j] at hu
              rw [splice_get (by omega)] at hy
              by_cases hj : off ≤ j ∧ j < off + size
              · rw [if_pos (by simp [hsz]; omega)] at hu
                rw [if_pos (by omega)] at hy
                exact hcell.2 _ u y (by simpa using hu) hy
              · rw [if_neg (by simp [hsz]; omega)] at hu
                rw [if_neg (by omega)] at hy
                exact hr j u y hu hy) hf
          refine ⟨C', ?_, e2, e3⟩
          simp only [Instr.fill, hpl]
          rw [if_neg (by simp [hsz]; omega)]
          exact e1
        · simp [hc] at hf

theorem placesOf_run {fs : List Field} {l : List (Nat × Nat)} (h : placesOf P fs = some l) : (fs.mapM fun f => do pure (f.offset, ← Go.sizeOf f.type) : Sem (List (Nat × Nat))).run P w = .ok l w := by
  induction fs generalizing l with
  | nil => simp [placesOf] at h; subst h; simp [pure, Sem.run]
  | cons f r ih =>
    simp only [placesOf] at h
    cases hs : szOf P f.type with
    | none => simp [hs] at h
    | some n =>
      cases hp : placesOf P r with
      | none => simp [hs, hp] at h
      | some l' =>
        simp [hs, hp] at h
        subst h
        simp only [List.mapM_cons, Sem.run_bind, run_sizeOf hs, Result.andThen, Sem.run_pure, ih hp]

theorem aBuild_run {t : TypeId} {qs : List (Nat × AV)} {y : AV} {ps : Array (Nat × Value)} (h : aBuild P t qs = some y) (hp : PartsRep D β w ps.toList qs) :
    ∃ v, (Instr.build t ps).run P w = .ok v w ∧ Rep D β w v y := by
  unfold aBuild at h
  cases hz : zeroOf P t with
  | none => simp [hz] at h
  | some z =>
    simp only [hz] at h
    obtain ⟨zv, hok, rfl, hzr⟩ := zeroOf_val hz
    have hzrep : Rep D β w zv (.t (ofVal zv)) := .t _ _ (okVal_rep hok)
    have hzc := hzrep.cells (by simp)
    cases ht : typ P t with
    | none => simp [ht] at h
    | some d =>
      simp only [ht] at h
      split at h
      · rename_i fields hd
        simp at hd
        subst hd
        cases hpl : placesOf P fields.toList with
        | none => simp [hpl] at h
        | some places =>
          simp only [hpl] at h
          cases hf : fill (fun i => places[i]?) (AV.t (ofVal zv)).cells qs with
          | none => simp [hf] at h
          | some cs =>
            simp [hf] at h
            subst h
            obtain ⟨C', e1, e2, e3⟩ := fill_rel qs ps.toList zv.cells _ cs hp hzc.1 hzc.2 hf
            refine ⟨.agg C', ?_, Rep.mkAgg e2 e3⟩
            simp only [Instr.build, Sem.run_bind, hzr, Result.andThen, run_underlying ht, Array.mapM_eq_mapM_toList, Sem.run_map, placesOf_run hpl]
            simp [e1]
      · rename_i len elem hd
        simp at hd
        subst hd
        cases hs : szOf P elem with
        | none => simp [hs] at h
        | some size =>
          simp only [hs] at h
          cases hf : fill (fun i => some (i * size, size)) (AV.t (ofVal zv)).cells qs with
          | none => simp [hf] at h
          | some cs =>
            simp [hf] at h
            subst h
            obtain ⟨C', e1, e2, e3⟩ := fill_rel qs ps.toList zv.cells _ cs hp hzc.1 hzc.2 hf
            refine ⟨.agg C', ?_, Rep.mkAgg e2 e3⟩
            simp only [Instr.build, Sem.run_bind, hzr, Result.andThen, run_underlying ht, run_sizeOf hs, e1]
            rfl
      · simp at h

/-! ### Comparisons -/

theorem run_partT {t : TypeId} {cs : Array Value} {xs : List T} {off : Nat} {y : T} (h : takeVarT P t (xs.drop off) = some y) (hl : cs.size = xs.length)
    (hr : ∀ (i : Nat) v x, cs[i]? = some v → xs[i]? = some x → RepT D w v x) : ∃ v, (part t cs off).run P w = .ok v w ∧ RepT D w v y := by
  have h' := takeVarT_map h
  rw [List.map_drop] at h'
  obtain ⟨v, h1, h2⟩ := run_part (P := P) (D := D) (β := fun _ _ => none) (w := w) h' (by simpa using hl) (fun i v x hv hx => by
    simp only [List.getElem?_map, Option.map_eq_some_iff] at hx
    obtain ⟨u, hu, rfl⟩ := hx
    exact .t _ _ (hr i v u hv hu))
  exact ⟨v, h1, h2.toT⟩

theorem cellsOf_eq {e : TypeId} {n : Nat} (h : szOf P e = some n) : P.cellsOf e = n := by
  obtain ⟨i, hi, rfl⟩ := szOf_info h
  simp [Program.cellsOf, hi]

theorem eqIn_run : ∀ (d : Nat) (t : TypeId) (x y : T) (b : Bool) (vx vy : Value), eqIn P d t x y = some b → RepT D w vx x → RepT D w vy y → ∀ d', d ≤ d' → (Op.equalIn d' t vx vy).run P w = .ok b w := by
  intro d
  induction d with
  | zero => intro t x y b vx vy h; simp [eqIn] at h
  | succ d ih =>
    intro t x y b vx vy h hx hy d' hd
    obtain ⟨d', rfl⟩ : ∃ n, d' = n + 1 := ⟨d' - 1, by omega⟩
    have hd' : d ≤ d' := by omega
    simp only [eqIn] at h
    split at h
    · rename_i a b' ht
      obtain ⟨rfl, _⟩ := hx.sc_eq
      obtain ⟨rfl, _⟩ := hy.sc_eq
      simp at h
      subst h
      simp [Op.equalIn, run_underlying ht, Result.andThen, pure, Sem.run]
    · rename_i k a k' b' ht
      obtain ⟨rfl, _⟩ := hx.sc_eq
      obtain ⟨rfl, _⟩ := hy.sc_eq
      by_cases hk : k = k'
      · simp [hk] at h
        subst h
        simp [Op.equalIn, run_underlying ht, Result.andThen, pure, Sem.run, hk]
      · simp [hk] at h
    · rename_i a b' ht
      obtain ⟨rfl, _⟩ := hx.sc_eq
      obtain ⟨rfl, _⟩ := hy.sc_eq
      simp at h
      subst h
      simp [Op.equalIn, run_underlying ht, Result.andThen, pure, Sem.run]
    · rename_i fs xs ys ht
      by_cases hst : P.stoodInHeld t = true
      · simp [hst] at h
      · rw [if_neg hst] at h
        have hst' : P.stoodInHeld t = false := by simpa using hst
        cases hx with
        | agg cx _ hlx hrx =>
          cases hy with
          | agg cy _ hly hry =>
            have hfo : P.fieldsOf t = fs := by simp only [typ] at ht; simp [Program.fieldsOf, ht]
            rw [run_equalIn_struct w d' t cx cy (by rw [hfo]; exact ht) hst', hfo]
            generalize fs.toList = fl at h
            clear hfo ht
            induction fl generalizing b with
            | nil => simp [eqFields] at h; subst h; simp [Op.eqFields, pure, Sem.run]
            | cons f r ihf =>
              simp only [eqFields] at h
              by_cases hn : f.name = "_"
              · simp [hn] at h
              · rw [if_neg hn] at h
                split at h
                · rename_i px py hpx hpy
                  split at h
                  · rename_i a b2 ha hb2
                    simp at h
                    subst h
                    obtain ⟨v1, r1, q1⟩ := run_partT (P := P) hpx hlx hrx
                    obtain ⟨v2, r2, q2⟩ := run_partT (P := P) hpy hly hry
                    have he := ih _ _ _ _ _ _ ha q1 q2 d' hd'
                    simp only [Op.eqFields, ne_eq, hn, not_false_eq_true, if_true, Sem.run_bind, r1, r2, Result.andThen, he]
                    cases a with
                    | false => simp [pure, Sem.run]
                    | true => simpa using ihf b2 hb2
                  · simp at h
                · simp at h
    · rename_i len elem xs ys ht
      cases hs : szOf P elem with
      | none => simp [hs] at h
      | some size =>
        simp only [hs] at h
        cases hx with
        | agg cx _ hlx hrx =>
          cases hy with
          | agg cy _ hly hry =>
            obtain ⟨i, hi, hsz⟩ := szOf_info hs
            rw [run_equalIn_array w d' cx cy ht hi, cellsOf_eq hs]
            generalize List.range len = is at h
            clear ht
            induction is generalizing b with
            | nil => simp [eqElems] at h; subst h; simp [Op.eqItems, pure, Sem.run]
            | cons j r ihf =>
              simp only [eqElems] at h
              split at h
              · rename_i px py hpx hpy
                split at h
                · rename_i a b2 ha hb2
                  simp at h
                  subst h
                  obtain ⟨v1, r1, q1⟩ := run_partT (P := P) hpx hlx hrx
                  obtain ⟨v2, r2, q2⟩ := run_partT (P := P) hpy hly hry
                  have he := ih _ _ _ _ _ _ ha q1 q2 d' hd'
                  simp only [Op.eqItems, Sem.run_bind, r1, r2, Result.andThen, he]
                  cases a with
                  | false => simp [pure, Sem.run]
                  | true => simpa using ihf b2 hb2
                · simp at h
              · simp at h
    · simp at h

end Go.Abs
