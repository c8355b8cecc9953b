/- Literals of slices, make, maps. -/
import Derived.Test.YtkamfflnfnjbeaaAbsOpG
set_option linter.unusedSimpArgs false
set_option linter.unusedVariables false
namespace Go.Abs
open Go

variable {P : Program} {Z : Base} {D : Dom} {β : Bet} {w : World} {h h' : Heap}

theorem fillElems_rel {size : Nat} (qs : List (Nat × AV)) : ∀ (ps : List (Nat × Value)) (C : Array Value) (E E' : List AV), PartsRep D β w ps qs → C.size = E.length * size → FlatRep D β w size C E →
    fillElems size E qs = some E' → ∃ C', Instr.fill (fun i => some (i * size, size)) C ps = some C' ∧ C'.size = E'.length * size ∧ E'.length = E.length ∧ FlatRep D β w size C' E' := by
  induction qs with
  | nil =>
    intro ps C E E' hp hl hr hf
    cases ps with
    | nil => simp [fillElems] at hf; subst hf; exact ⟨C, rfl, hl, rfl, hr⟩
    | cons p r => simp [PartsRep] at hp
  | cons q qs ih =>
    intro ps C E E' hp hl hr hf
    cases ps with
    | nil => simp [PartsRep] at hp
    | cons p ps =>
      obtain ⟨h1, h2, h3⟩ := hp.cons
      obtain ⟨i, v⟩ := p
      obtain ⟨i', x⟩ := q
      simp only at h1 h2
      subst h1
      simp only [fillElems] at hf
      by_cases hc : x.cells.length = size ∧ 0 < size ∧ i < E.length ∧ storableAll x.cells = true
      · rw [if_pos hc] at hf
        obtain ⟨hc1, hc2, hc3, hc4⟩ := hc
        have hcell := h2.cells (cells_ne_dead (by omega))
        have hsz : v.cells.size = size := by rw [hcell.1, hc1]
        have hik := Nat.mul_le_mul_right size (show i + 1 ≤ E.length from hc3)
        have hik2 : (i + 1) * size = i * size + size := Nat.succ_mul i size
        have hfold : (v.cells.zipIdx.foldl (fun cs (x : Value × Nat) => cs.setIfInBounds (i * size + x.2) x.1) C) = ((v.cells.toList.zipIdx 0).foldl (fun cs (x : Value × Nat) => cs.setIfInBounds (i * size + x.2) x.1) C) := by
          rw [← Array.foldl_toList, Array.toList_zipIdx]
        obtain ⟨g1, g2⟩ := foldl_set_list v.cells.toList 0 (i * size) C (by simp [hsz]; omega)
        obtain ⟨C', e1, e2, e3, e4⟩ := ih ps (v.cells.zipIdx.foldl (fun cs (x : Value × Nat) => cs.setIfInBounds (i * size + x.2) x.1) C) (E.set i x) E' h3
          (by rw [hfold, g1]; simpa using hl)
          ⟨by rw [hfold, g1]; simp [hl], fun j y hy => by
            rw [List.getElem?_set] at hy
            split at hy
            · simp [hc3] at hy; rw [← hy]; exact hc1
            · exact hr.2.1 j y hy, fun j y m t hy ht => by
            rw [hfold, g2]
            rw [List.getElem?_set] at hy
            split at hy
            · rename_i hij
              subst hij
              simp [hc3] at hy
              subst hy
              have hm : m < size := by rw [← hc1]; exact (List.getElem?_eq_some_iff.1 ht).1
              rw [if_pos (by simp [hsz]; omega)]
              have hlt : m < v.cells.size := by omega
              have hget : v.cells[m]? = some v.cells[m] := by simp [hlt]
              have hrp := hcell.2 m _ t hget ht
              have hidx : i * size + m - (i * size + 0) = m := by omega
              rw [hidx]
              exact ⟨v.cells[m], by rw [← Array.getElem?_toList] at hget; exact hget, storable_ok (storableAll_get hc4 ht) hrp, hrp⟩
            · rename_i hij
              have hm : m < size := by rw [← hr.2.1 j y hy]; exact (List.getElem?_eq_some_iff.1 ht).1
              have hne : ¬ (i * size + 0 ≤ j * size + m ∧ j * size + m < i * size + 0 + v.cells.toList.length) := by
                simp only [Array.length_toList, hsz]
                rcases Nat.lt_or_gt_of_ne hij with hlt | hgt
                · have := Nat.mul_le_mul_right size (show i + 1 ≤ j from hlt)
                  omega
                · have g3 := Nat.mul_le_mul_right size (show j + 1 ≤ i from hgt)
                  have g4 : (j + 1) * size = j * size + size := Nat.succ_mul j size
                  omega
              rw [if_neg hne]
              exact hr.2.2 j y m t hy ht⟩ hf
        refine ⟨C', ?_, e2, by simpa using e3, e4⟩
        simp only [Instr.fill]
        rw [if_neg (by simp [hsz, hl]; omega)]
        exact e1
      · simp [hc] at hf

/-- A new block of elements that are trees: a slice that is a tree. -/
theorem newTree_done [Cp] {k : Nat} {ts : List T} {c : Array Value} {ty : TypeId} (hg : GInv Z D β w) (hf : FlatRep D β w k c (ts.map .t)) :
    Done Z D β w h (stepS [] h h) (.t (.sl true k ts)) (.ok (.value (.slice (some ⟨w.heap.size, 0, none⟩) ts.length ts.length)) (w.alloc (.cells c ty (0, 0)))) := by
  have f : Frm (stepS [] h h) D β w (dAdd D w.heap.size) β (w.alloc (.cells c ty (0, 0))) := frm_alloc_D hg _
  refine ⟨_, _, dAdd D w.heap.size, β, rfl, .t _ _ ?_, f, (hg.alloc _ (fun _ _ _ h => by cases h; rfl)).dAdd (by simp) hg.size0 (fun ds hx => by rw [heap_alloc_new] at hx; cases hx), fun o y hy => ?_, fun o e y hy => .inl ⟨e, y, hy⟩⟩
  · have hcells : ∀ (i : Nat) x (j : Nat) t, ts[i]? = some x → x.cells[j]? = some t → ∃ v, c[i * k + j]? = some v ∧ okCell v = true ∧ RepT D w v t := by
      intro i x j t hx ht
      obtain ⟨v, p1, p2, p3⟩ := hf.2.2 i (.t x) j (.t t) (by simp [hx]) (by rw [tcells]; simp [ht])
      exact ⟨v, p1, p2, p3.toT⟩
    have hk : ∀ (i : Nat) x, ts[i]? = some x → x.cells.length = k := by
      intro i x hx
      have := hf.2.1 i (.t x) (by simp [hx])
      rw [tcells] at this; simpa using this
    refine .sl _ 0 _ _ true k ts (.inr rfl) rfl (Nat.le_refl _) (fun _ => rfl) hk (fun j => (c[j]?).getD default) (fun j hj => ?_) (fun i x j t hx ht => ?_)
    · have hlt : j < c.size := by have := hf.1; simp at this; omega
      by_cases hk0 : k = 0
      · subst hk0; simp at hj
      · have hdiv : j / k < ts.length := (Nat.div_lt_iff_lt_mul (by omega)).2 hj
        have hmod : j % k < k := Nat.mod_lt _ (by omega)
        have hxd : ts[j / k]? = some ts[j / k] := by simp [hdiv]
        have hcl := hk _ _ hxd
        obtain ⟨v, p1, p2, _⟩ := hcells _ _ (j % k) _ hxd (List.getElem?_eq_getElem (by rw [hcl]; exact hmod))
        have hjj : j / k * k + j % k = j := by rw [Nat.mul_comm]; exact Nat.div_add_mod j k
        rw [hjj] at p1
        simp only [p1, Option.getD_some]
        refine ⟨?_, p2⟩
        have e := heap_alloc_new (w := w) (.cells c ty (0, 0))
        simp only [World.cell?, e, Nat.zero_add]
        simpa using p1
    · obtain ⟨v, p1, p2, p3⟩ := hcells i x j t hx ht
      simp only [p1, Option.getD_some]
      exact p3.mono f.ext.sub f.ext.same
  · rcases hy with hy | ⟨h1, h2⟩
    · simp at hy
    · omega

theorem zeros_flat {elem : TypeId} {size len : Nat} {z : Value} (hok : okVal z = true) (hk : (AV.t (ofVal z)).cells.length = size) (hs : storableAll (AV.t (ofVal z)).cells = true) (h0 : size ≠ 0) :
    FlatRep D β w size ((Array.range (len * size)).map (z.cells[· % z.cells.size]!)) (List.replicate len (.t (ofVal z))) := by
  have hzs : z.cells.size = size := by
    have := (Rep.cells (D := D) (β := β) (w := w) (.t _ _ (okVal_rep hok)) (by simp)).1
    rw [this, hk]
  refine FlatRep.zeros hok hk hs (Nat.le_refl len) _ (by simp) (fun i hi => ?_) h0
  simp [hi, hzs]

theorem buildSlice_done {t : TypeId} {len size : Nat} {elem : TypeId} {z : T} {qs : List (Nat × AV)} {ps : Array (Nat × Value)} {elems : List AV} (hg : GInv Z D β w) (ht : typ P t = some (.slice elem)) (hs : szOf P elem = some size) (hz : zeroOf P elem = some z)
    (hc : ¬ (size = 0 ∨ 16777216 < len * size ∨ (AV.t z).cells.length ≠ size ∨ storableAll (AV.t z).cells = false)) (hf : fillElems size (List.replicate len (.t z)) qs = some elems) (hp : PartsRep D β w ps.toList qs) :
    ∃ c, (Instr.buildSlice t len ps).run P w = .ok (.slice (some ⟨w.heap.size, 0, none⟩) len len) (w.alloc (.cells c elem (0, 0))) ∧ FlatRep D β w size c elems ∧ elems.length = len ∧ c.size = len * size := by
  obtain ⟨zv, hok, rfl, hzr⟩ := zeroOf_val hz
  have h0 : size ≠ 0 := fun e => hc (.inl e)
  have h1 : ¬ (len * size > 16777216) := fun e => hc (.inr (.inl e))
  have h2 : (AV.t (ofVal zv)).cells.length = size := Classical.byContradiction fun e => hc (.inr (.inr (.inl e)))
  have h3 : storableAll (AV.t (ofVal zv)).cells = true := by
    cases hst : storableAll (AV.t (ofVal zv)).cells with
    | true => rfl
    | false => exact absurd (.inr (.inr (.inr hst))) hc
  have hfl := zeros_flat (D := D) (β := β) (w := w) (elem := elem) (len := len) hok h2 h3 h0
  obtain ⟨C', e1, e2, e3, e4⟩ := fillElems_rel qs ps.toList _ _ elems hp (by simp) hfl hf
  have hl : elems.length = len := by simpa using e3
  refine ⟨C', ?_, e4, hl, by rw [e2, hl]⟩
  have h1' : ¬ (len * size > 2 ^ 24) := h1
  have hr0 : ∀ f : Nat → Value, (Array.range 0).map f = #[] := fun f => by simp
  by_cases hl0 : len * size = 0
  · have e1' : Instr.fill (fun i => some (i * size, size)) #[] ps.toList = some C' := by rw [hl0, hr0] at e1; exact e1
    simp only [Instr.buildSlice, Sem.run_bind, run_underlying ht, Result.andThen, run_sizeOf hs]
    rw [if_neg h1', if_pos hl0]
    simp only [Sem.run_bind, Sem.run_pure, Result.andThen, hl0, hr0, e1', run_newRow]
  · simp only [Instr.buildSlice, Sem.run_bind, run_underlying ht, Result.andThen, run_sizeOf hs]
    rw [if_neg h1', if_neg hl0]
    simp only [Sem.run_bind, Sem.run_pure, Result.andThen, hzr, e1, run_newRow]

theorem wrapNat {n : Nat} (h : n ≤ 9223372036854775807) : IntKind.i64.wrap (n : Int) = n := by
  simp [IntKind.wrap, IntKind.signed, IntKind.bits]
  omega

theorem makeSlice_done {t elem : TypeId} {size bytes n m : Nat} {z : T} {xl xc : AV} {vl vc : Value} (hg : GInv Z D β w) (ht : typ P t = some (.slice elem)) (hs : szOf P elem = some size) (hb : byOf P elem = some bytes) (hz : zeroOf P elem = some z)
    (hl : asNat xl = some n) (hcc : asNat xc = some m) (hvl : Rep D β w vl xl) (hvc : Rep D β w vc xc) (hcond : size ≠ 0 ∧ (AV.t z).cells.length = size ∧ storableAll (AV.t z).cells = true ∧ n ≤ m ∧ bytes * m ≤ roomB ∧ m ≤ 9223372036854775807) :
    ∃ c, (Instr.makeSlice t vl vc).run P w = .ok (.slice (some ⟨w.heap.size, 0, none⟩) n m) (w.alloc (.cells c elem (0, 0))) ∧ FlatRep D β w size c (List.replicate n (.t z)) ∧ c.size = m * size := by
  obtain ⟨h0, h1, h2, h3, h4, h5⟩ := hcond
  obtain ⟨kl, rfl⟩ := asNat_rep hvl hl
  obtain ⟨kc, rfl⟩ := asNat_rep hvc hcc
  obtain ⟨zv, hok, rfl, hzr⟩ := zeroOf_val hz
  obtain ⟨inf, hinf, hib⟩ := byOf_info hb
  have hzs : zv.cells.size = size := by
    have := (Rep.cells (D := D) (β := β) (w := w) (.t _ _ (okVal_rep hok)) (by simp)).1
    rw [this, h1]
  refine ⟨(Array.range (m * size)).map (zv.cells[· % zv.cells.size]!), ?_, FlatRep.zeros hok h1 h2 h3 _ (by simp) (fun i hi => by simp [hi, hzs]) h0, by simp⟩
  have hw1 := wrapNat (n := n) (by omega)
  have hw2 := wrapNat (n := m) h5
  have hask : ∀ (q : Nat) (w' : World), (askRoom q).run P w' = .ok () w' := by
    intro q w'
    unfold askRoom
    split <;> rfl
  have hbm : ¬ ((bytes : Int) * (m : Int) > 2 ^ 48) := by
    have : ((bytes * m : Nat) : Int) ≤ 140737488355328 := by rw [roomB] at h4; omega
    have e : ((bytes * m : Nat) : Int) = (bytes : Int) * (m : Int) := by simp
    rw [← e]; omega
  have hbad : ((decide ((m : Int) < 0) || decide ((inf.bytes : Int) * (m : Int) > 2 ^ 48)) || decide ((n : Int) < 0) || decide ((n : Int) > (m : Int))) = false := by
    rw [hib]
    simp only [Bool.or_eq_false_iff, decide_eq_false_iff_not]
    exact ⟨⟨⟨by omega, hbm⟩, by omega⟩, by omega⟩
  by_cases hl0 : m * size = 0
  · have hr0 : ∀ f : Nat → Value, (Array.range 0).map f = #[] := fun f => by simp
    simp only [Instr.makeSlice, Sem.run_bind, run_underlying ht, Result.andThen, asInt, run_asIntOf, Sem.run_pure, run_typeInfo hinf, hw1, hw2]
    rw [if_neg (by simpa using hbad)]
    simp only [Sem.run_bind, hask, Result.andThen, run_sizeOf hs, Int.toNat_natCast, hl0, if_true, Sem.run_pure, hr0, run_newRow]
  · simp only [Instr.makeSlice, Sem.run_bind, run_underlying ht, Result.andThen, asInt, run_asIntOf, Sem.run_pure, run_typeInfo hinf, hw1, hw2]
    rw [if_neg (by simpa using hbad)]
    simp only [Sem.run_bind, hask, Result.andThen, run_sizeOf hs, Int.toNat_natCast, hl0, if_false, Sem.run_pure, hzr, run_newRow]

end Go.Abs
