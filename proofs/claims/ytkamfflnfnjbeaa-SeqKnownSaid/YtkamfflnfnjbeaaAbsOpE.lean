/- Slices that are made: literals, make, append, copy. -/
import Derived.Test.YtkamfflnfnjbeaaAbsOpD
import Derived.Laws.Append
set_option linter.unusedSimpArgs false
set_option linter.unusedVariables false
namespace Go.Abs
open Go

variable {P : Program} {Z : Base} {D : Dom} {β : Bet} {w : World} {h h' : Heap}

theorem Rep.slice_formA {v : Value} {clip : Bool} {k : Nat} (hr : RepT D w v (.sl clip k [])) : ∃ a cap, v = .slice a 0 cap ∧ 0 ≤ cap ∧ True := by
  obtain ⟨a, cap, e, _, _⟩ := Rep.slice_form hr
  exact ⟨a, cap, e, Nat.zero_le _, trivial⟩

/-- The cells that the first m elements of a slice lie in, read. -/
theorem run_elems_first [Cp] {size m : Nat} {x : AV} {vx : Value} {xs : List AV} (he : elemsOf h size x = some xs) (hx : Rep D β w vx x) (hm : m ≤ xs.length)
    (hobj : ∀ (o : Nat) y, o ∈ objsOf x → h[o]? = some y → ObjOk D β w o y) :
    ∃ c, (Builtin.lenOf vx).run P w = .ok xs.length w ∧ (Builtin.firstCells size m vx).run P w = .ok c w ∧ FlatRep D β w size c (xs.take m) ∧ c.size = m * size := by
  have empty : ∀ (a : Option Addr) (cap : Nat), xs = [] → vx = .slice a 0 cap →
      ∃ c, (Builtin.lenOf vx).run P w = .ok xs.length w ∧ (Builtin.firstCells size m vx).run P w = .ok c w ∧ FlatRep D β w size c (xs.take m) ∧ c.size = m * size := by
    intro a cap e1 e2
    subst e1; subst e2
    have hm0 : m = 0 := by simpa using hm
    subst hm0
    refine ⟨#[], rfl, ?_, ⟨by simp, by simp, by simp⟩, by simp⟩
    cases a with
    | none => rfl
    | some a => simp [Builtin.firstCells, loadCells, loadCellsFrom, pure, Sem.run]
  unfold elemsOf at he
  split at he
  · rename_i clip k
    simp at he; subst he
    obtain ⟨a, cap, rfl, _, _⟩ := Rep.slice_formA hx.toT
    exact empty a cap rfl rfl
  · rename_i clip k y ys
    by_cases hk : k = size
    · subst hk
      simp at he; subst he
      have ht := hx.toT
      cases ht with
      | sl b off len cap _ _ _ hD hlen hcap hclip hkk c hc hr =>
        have hml : m ≤ len := by rw [hlen]; simpa using hm
        have hmk : m * k ≤ len * k := Nat.mul_le_mul_right k hml
        have hrun := run_loadCells (P := P) (w := w) (b := b) (off := off) (c := c) (m * k) (fun j hj => (hc j (by omega)).1)
        refine ⟨((List.range (m * k)).map c).toArray, ?_, hrun, ⟨?_, ?_, ?_⟩, ?_⟩
        · simp [Builtin.lenOf, pure, Sem.run, hlen]
        · simp at hm
          simp [Nat.min_eq_left hm]
        · intro i x hx
          rw [← List.map_cons, List.getElem?_take] at hx
          split at hx
          · rw [List.getElem?_map, Option.map_eq_some_iff] at hx
            obtain ⟨u, hu, rfl⟩ := hx
            rw [tcells]; simp; exact hkk i u hu
          · simp at hx
        · intro i x j t hx' ht'
          rw [← List.map_cons, List.getElem?_take] at hx'
          split at hx'
          · rename_i him
            rw [List.getElem?_map, Option.map_eq_some_iff] at hx'
            obtain ⟨u, hu, rfl⟩ := hx'
            rw [tcells, List.getElem?_map, Option.map_eq_some_iff] at ht'
            obtain ⟨u', hu', rfl⟩ := ht'
            have hj : j < k := by rw [← hkk i u hu]; exact (List.getElem?_eq_some_iff.1 hu').1
            have hlt : i * k + j < m * k := by
              have h1 := Nat.mul_le_mul_right k (show i + 1 ≤ m from him)
              have h2 : (i + 1) * k = i * k + k := Nat.succ_mul i k
              omega
            exact ⟨c (i * k + j), by simp [hlt], (hc _ (by omega)).2, .t _ _ (hr i u j u' hu hu')⟩
          · simp at hx'
        · simp
    · simp [hk] at he
  · simp at he; subst he
    obtain ⟨rfl, _⟩ := hx.toT.sc_eq
    exact empty none 0 rfl rfl
  · rename_i o e i len k clip
    split at he
    · rename_i k2 elems mr ho
      by_cases hc : k = size ∧ mr ≤ e ∧ e ≤ elems.length ∧ i + len ≤ e
      · rw [if_pos hc] at he
        obtain ⟨rfl, hmr, hel, hile⟩ := hc
        simp at he; subst he
        have hlen : ((elems.drop i).take len).length = len := by simp; omega
        rw [hlen] at hm
        rw [hlen]
        have hok := hobj o _ (by simp [objsOf]) ho
        cases hx with
        | ms0 a =>
          have hm0 : m = 0 := by omega
          subst hm0
          refine ⟨#[], rfl, ?_, ⟨by simp, by simp, by simp⟩, by simp⟩
          cases a with
          | none => rfl
          | some a => simp [Builtin.firstCells, loadCells, loadCellsFrom, pure, Sem.run]
        | ms _ _ _ _ _ _ b cap n hb hle hcap hclip hn hsz =>
          obtain ⟨hD, hk, hel', hcc⟩ := hok.2 e b k hb
          subst hk
          obtain ⟨c, ty, h1, h2, h3⟩ := hcc hmr
          have hbd : (i + len) * k ≤ c.size := Nat.le_trans (Nat.mul_le_mul_right k hile) h2
          have hmul : (i + len) * k = i * k + len * k := Nat.add_mul i len k
          have hmk : m * k ≤ len * k := Nat.mul_le_mul_right k hm
          have hrun := run_loadCells (P := P) (w := w) (b := b) (off := i * k) (c := fun j => (c[i * k + j]?).getD default) (m * k) (fun j hj => by
            have hlt : i * k + j < c.size := by omega
            simp [World.cell?, h1, hlt])
          refine ⟨_, rfl, hrun, ⟨?_, ?_, ?_⟩, ?_⟩
          · have : ((List.take len (List.drop i elems)).take m).length = m := by rw [List.length_take, hlen]; exact Nat.min_eq_left hm
            rw [this]; simp
          · intro j x hx
            rw [List.getElem?_take] at hx
            split at hx
            · rw [List.getElem?_take] at hx
              split at hx
              · rw [List.getElem?_drop] at hx; exact hok.1 _ x hx
              · simp at hx
            · simp at hx
          · intro j x q t hx ht
            rw [List.getElem?_take] at hx
            split at hx
            · rename_i hjm
              rw [List.getElem?_take] at hx
              split at hx
              · rename_i hj
                rw [List.getElem?_drop] at hx
                have hmk : q < k := by rw [← hok.1 _ x hx]; exact (List.getElem?_eq_some_iff.1 ht).1
                obtain ⟨v, p1, p2, p3⟩ := h3 (i + j) x q t (by omega) hx ht
                have hlt : j * k + q < m * k := by
                  have g1 := Nat.mul_le_mul_right k (show j + 1 ≤ m from hjm)
                  have g2 : (j + 1) * k = j * k + k := Nat.succ_mul j k
                  omega
                have he : i * k + (j * k + q) = (i + j) * k + q := by rw [Nat.add_mul]; omega
                refine ⟨v, ?_, p2, p3⟩
                simp [hlt, he, p1]
              · simp at hx
            · simp at hx
          · simp
      · simp [hc] at he
    · simp at he
  · simp at he

theorem run_elems [Cp] {size : Nat} {x : AV} {vx : Value} {xs : List AV} (he : elemsOf h size x = some xs) (hx : Rep D β w vx x)
    (hobj : ∀ (o : Nat) y, o ∈ objsOf x → h[o]? = some y → ObjOk D β w o y) :
    ∃ c, (Builtin.lenOf vx).run P w = .ok xs.length w ∧ (Builtin.firstCells size xs.length vx).run P w = .ok c w ∧ FlatRep D β w size c xs ∧ c.size = xs.length * size := by
  have := run_elems_first (P := P) he hx (Nat.le_refl _) hobj
  rwa [List.take_length] at this

theorem FlatRep.append {k : Nat} {c d : Array Value} {xs ys : List AV} (h1 : FlatRep D β w k c xs) (hc : c.size = xs.length * k) (h2 : FlatRep D β w k d ys) : FlatRep D β w k (c ++ d) (xs ++ ys) := by
  refine ⟨by have := h2.1; simp [Nat.add_mul, hc]; exact this, fun i x hx => ?_, fun i x j t hx ht => ?_⟩
  · rw [List.getElem?_append] at hx
    split at hx
    · exact h1.2.1 i x hx
    · exact h2.2.1 _ x hx
  · rw [List.getElem?_append] at hx
    split at hx
    · rename_i hi
      obtain ⟨v, p1, p2, p3⟩ := h1.2.2 i x j t hx ht
      exact ⟨v, by rw [Array.getElem?_append, if_pos (Array.getElem?_eq_some_iff.1 p1).1]; exact p1, p2, p3⟩
    · rename_i hi
      obtain ⟨v, p1, p2, p3⟩ := h2.2.2 _ x j t hx ht
      refine ⟨v, ?_, p2, p3⟩
      have e : i * k = xs.length * k + (i - xs.length) * k := by rw [← Nat.add_mul]; congr 1; omega
      rw [Array.getElem?_append, if_neg (by rw [hc]; omega)]
      have e2 : i * k + j - c.size = (i - xs.length) * k + j := by rw [hc]; omega
      rw [e2]; exact p1

theorem FlatRep.more {k : Nat} {c d : Array Value} {xs : List AV} (h1 : FlatRep D β w k c xs) : FlatRep D β w k (c ++ d) xs := by
  refine ⟨by have := h1.1; simp; omega, h1.2.1, fun i x j t hx ht => ?_⟩
  obtain ⟨v, p1, p2, p3⟩ := h1.2.2 i x j t hx ht
  exact ⟨v, by rw [Array.getElem?_append, if_pos (Array.getElem?_eq_some_iff.1 p1).1]; exact p1, p2, p3⟩

/-- The cells of n zero values in a row. -/
theorem FlatRep.zeros {z : Value} {k n m : Nat} (hz : okVal z = true) (hk : (AV.t (ofVal z)).cells.length = k) (hs : storableAll (AV.t (ofVal z)).cells = true) (hnm : n ≤ m) (c : Array Value)
    (hcs : c.size = m * k) (hc : ∀ i, i < m * k → c[i]? = some (z.cells[i % k]!)) (hk0 : k ≠ 0) : FlatRep D β w k c (List.replicate n (.t (ofVal z))) := by
  have hr : Rep D β w z (.t (ofVal z)) := .t _ _ (okVal_rep hz)
  have hcell := hr.cells (by simp)
  refine ⟨by simp [hcs]; exact Nat.mul_le_mul_right k hnm, fun i x hx => ?_, fun i x j t hx ht => ?_⟩
  · simp [List.getElem?_replicate] at hx
    obtain ⟨_, rfl⟩ := hx
    exact hk
  · simp [List.getElem?_replicate] at hx
    obtain ⟨hi, rfl⟩ := hx
    have hj : j < k := by rw [← hk]; exact (List.getElem?_eq_some_iff.1 ht).1
    have hlt : i * k + j < m * k := by
      have g1 := Nat.mul_le_mul_right k (show i + 1 ≤ m by omega)
      have g2 : (i + 1) * k = i * k + k := Nat.succ_mul i k
      omega
    have hmod : (i * k + j) % k = j := by rw [Nat.mul_comm, Nat.mul_add_mod]; exact Nat.mod_eq_of_lt hj
    have hjz : j < z.cells.size := by rw [hcell.1, hk]; exact hj
    have hget : z.cells[j]? = some z.cells[j] := by simp [hjz]
    have hrp := hcell.2 j _ t hget ht
    refine ⟨z.cells[j], ?_, storable_ok (storableAll_get hs ht) hrp, hrp⟩
    rw [hc _ hlt, hmod]
    simp [hjz]

/-- A new slice over a new row. -/
theorem newSlice_done [Cp] {k : Nat} {elems : List AV} {c : Array Value} {ty : TypeId} {w0 : World} {cap : Nat} {clip : Bool} {tch : List Nat} (f0 : Frm (fun _ => False) D β w0 D β w) (hg : GInv Z D β w)
    (hf : FlatRep D β w k c elems) (hn : ∀ e, β h.length e = none)
    (hcap : elems.length ≤ cap) (hclip : clip = true → cap = elems.length) (hsz : cap * k ≤ c.size) (hob : ∀ (o : Nat) x, o ∈ tch → h[o]? = some x → ObjOk D β w0 o x) :
    Done Z D β w0 (h ++ [.row k elems 0]) (stepS tch h (h ++ [.row k elems 0])) (.ms h.length elems.length 0 elems.length k clip)
      (.ok (.value (.slice (some ⟨w.heap.size, 0, none⟩) elems.length cap)) (w.alloc (.cells c ty (0, 0)))) := by
  obtain ⟨f, g, ob⟩ := row_new (ty := ty) hg hf hn
  have hfr : Frm (fun q => q = h.length) D β w0 D (bAdd β h.length elems.length w.heap.size k) (w.alloc (.cells c ty (0, 0))) :=
    (f0.mono (fun _ hx => hx.elim)).trans f
  refine ⟨_, _, D, _, rfl, ?_, hfr.mono (fun o ho => by subst ho; exact .inr ⟨Nat.le_refl _, by simp⟩), g, fun o y hy he => ?_, dom_bAdd (by simp)⟩
  · have := Rep.ms (D := D) (w := w.alloc (.cells c ty (0, 0))) h.length elems.length 0 elems.length k clip w.heap.size cap c.size (bAdd_same β h.length elems.length w.heap.size k) (by omega) hcap hclip
      (by simp only [rowSize, heap_alloc_new]) (by simpa using hsz)
    simpa using this
  · by_cases e : o = h.length
    · subst e
      rw [get_append_new] at he
      cases he
      exact ob
    · have hlt : o < h.length := by
        have := (List.getElem?_eq_some_iff.1 he).1
        simp at this; omega
      rw [List.getElem?_append_left hlt] at he
      rcases hy with hy | ⟨h1, h2⟩
      · exact (hob o y hy he).frame hfr e
      · omega

theorem append_new_get (h : Heap) (x : AObj) (tch : List Nat) (o : Nat) (ho : ¬ stepS tch h (h ++ [x]) o) : (h ++ [x])[o]? = h[o]? := by
  rw [List.getElem?_append]
  split
  · rfl
  · rename_i hl
    have : ¬ (h.length ≤ o ∧ o < (h ++ [x]).length) := fun hh => ho (.inr hh)
    have hge : (h ++ [x]).length ≤ o := by omega
    simp at hge
    have h1 : ([x] : Heap)[o - h.length]? = none := by simp; omega
    have h2 : h[o]? = none := by simp; omega
    rw [h1, h2]

theorem run_append_grows {t u elem eu ty : TypeId} {size bytes sLen sCap n : Nat} {base : Option Addr} {vx z : Value} {old new : Array Value} (ht : typ P t = some (.slice elem)) (hu : typ P u = some (.slice eu))
    (hs : szOf P elem = some size) (hb : byOf P elem = some bytes) (hb0 : bytes ≠ 0) (hz : ∀ w, (zeroValue elem).run P w = .ok z w) (hcap : sCap < sLen + n) (hroom : (sLen + n) * bytes ≤ roomB)
    (hlen : ∀ w, (Builtin.lenOf vx).run P w = .ok n w) (hold : (Builtin.firstCells size sLen (.slice base sLen sCap)).run P w.drew = .ok old w.drew)
    (hnew : (Builtin.firstCells size n vx).run P w.drew = .ok new w.drew) :
    ∃ newCap, sLen + n ≤ newCap ∧ (Builtin.append_ #[t, u] ty #[.slice base sLen sCap, vx]).run P w =
      .ok (.slice (some ⟨w.heap.size, 0, none⟩) (sLen + n) newCap) (w.drew.alloc (.cells (old ++ new ++ Builtin.zeroCells z.cells (newCap - (sLen + n))) elem (0, 0))) := by
  obtain ⟨i, hi, hib⟩ := byOf_info hb
  refine ⟨(sLen + n) + w.tape w.drawn (.appendCap (sLen + n) sCap elem) % (2 ^ 63 - (sLen + n)), by omega, ?_⟩
  have hng : ¬ (sLen + n ≤ sCap) := by omega
  have hfit : ¬ (281474976710656 < Builtin.nextslicecap (sLen + n) sCap * i.bytes) := by
    have := growslice_fits hcap (by rw [roomB] at hroom; exact hroom)
    rw [hib]; omega
  have hb0' : i.bytes ≠ 0 := by rw [hib]; exact hb0
  have hask : ∀ (m : Nat) (w' : World), (askRoom m).run P w' = .ok () w' := by
    intro m w'
    unfold askRoom
    split <;> rfl
  simp only [Builtin.append_, Sem.run_bind, run_underlying ht, run_underlying hu, run_sizeOf hs, Result.andThen, List.getElem?_toArray, List.getElem?_cons_zero, List.getElem?_cons_succ, Sem.run_pure, hlen]
  simp [Result.andThen, hng, hfit, hb0', run_typeInfo hi, hask, hz, run_newRow, hlen, hold, hnew, Question.forced, Question.cut]

end Go.Abs
