/- Variables and rows: new ones, stores. -/
import Derived.Test.YtkamfflnfnjbeaaAbsWorld
set_option linter.unusedSimpArgs false
set_option linter.unusedVariables false
namespace Go.Abs
open Go

variable {P : Program} {Z : Base} {D : Dom} {β : Bet} {w : World} {h h' : Heap}

/-- What an operation has come to: a value that is stood for by v, in a world for the heap h'; the objects outside S are as they were. -/
def Done [Cp] (Z : Base) (D : Dom) (β : Bet) (w : World) (h' : Heap) (S : Nat → Prop) (v : AV) (r : Result Next) : Prop :=
  ∃ nx w' D' β', r = .ok nx w' ∧ (match nx with | .value v' => Rep D' β' w' v' v | .skip => v = .t (.sc undef) | _ => False) ∧ Frm S D β w D' β' w' ∧ GInv Z D' β' w' ∧
    (∀ (o : Nat) x, S o → h'[o]? = some x → ObjOk D' β' w' o x) ∧ (∀ o e y, β' o e = some y → (∃ e' y', β o e' = some y') ∨ o < h'.length)

/-- The objects that an operation may change: those that it touches, and the new ones. -/
def stepS (tch : List Nat) (h h' : Heap) : Nat → Prop := fun o => o ∈ tch ∨ (h.length ≤ o ∧ o < h'.length)

theorem Done.pure [Cp] {S : Nat → Prop} {v' : Value} {v : AV} (hg : GInv Z D β w) (hr : Rep D β w v' v) (ho : ∀ (o : Nat) x, S o → h[o]? = some x → ObjOk D β w o x) :
    Done Z D β w h S v (.ok (.value v') w) :=
  ⟨_, w, D, β, rfl, hr, .refl D β w, hg, ho, fun o e y hy => .inl ⟨e, y, hy⟩⟩

theorem storableAll_get {cs : List AV} (h : storableAll cs = true) {j : Nat} {t : AV} (ht : cs[j]? = some t) : storable t = true := by
  induction cs generalizing j with
  | nil => simp at ht
  | cons c r ih =>
    simp [storableAll] at h
    cases j with
    | zero => simp at ht; subst ht; exact h.1
    | succ j => exact ih h.2 (by simpa using ht)

theorem storable_ok {c : Value} {t : AV} (hs : storable t = true) (hr : Rep D β w c t) : okCell c = true := by
  cases hr with
  | t _ x hx =>
    cases hx <;> first | rfl | (simp [storable] at hs)
    rename_i hv
    exact hs
  | agg => simp [storable] at hs
  | tup => simp [storable] at hs
  | dead => simp [storable] at hs
  | _ => rfl

/-- Flat cells that stand for a list of elements. -/
def FlatRep (D : Dom) (β : Bet) (w : World) (k : Nat) (c : Array Value) (elems : List AV) : Prop :=
  elems.length * k ≤ c.size ∧ (∀ (i : Nat) x, elems[i]? = some x → x.cells.length = k) ∧
  ∀ (i : Nat) x (j : Nat) t, elems[i]? = some x → x.cells[j]? = some t → ∃ v, c[i * k + j]? = some v ∧ okCell v = true ∧ Rep D β w v t

theorem FlatRep.mono {D' : Dom} {β' : Bet} {w' : World} {k : Nat} {c : Array Value} {elems : List AV} (hx : Ext D β w D' β' w') (h : FlatRep D β w k c elems) : FlatRep D' β' w' k c elems :=
  ⟨h.1, h.2.1, fun i x j t hi ht => let ⟨v, h1, h2, h3⟩ := h.2.2 i x j t hi ht; ⟨v, h1, h2, h3.mono hx⟩⟩

theorem FlatRep.one {v : Value} {x : AV} (hr : Rep D β w v x) (hs : storableAll x.cells = true) (hx : x ≠ .dead) : FlatRep D β w x.cells.length v.cells [x] := by
  have hc := hr.cells hx
  refine ⟨by simp [hc.1], fun i y hy => ?_, fun i y j t hy ht => ?_⟩
  · cases i with
    | zero => simp at hy; subst hy; rfl
    | succ i => simp at hy
  · cases i with
    | zero =>
      simp at hy
      subst hy
      have hj : j < v.cells.size := by rw [hc.1]; exact (List.getElem?_eq_some_iff.1 ht).1
      have hcj : v.cells[j]? = some v.cells[j] := by simp [hj]
      have := hc.2 j _ t hcj ht
      exact ⟨_, by simp only [Nat.zero_mul, Nat.zero_add]; exact hcj, storable_ok (storableAll_get hs ht) this, this⟩
    | succ i => simp at hy

/-- A new row, its block new too. -/
theorem row_new [Cp] {k : Nat} {elems : List AV} {c : Array Value} {ty : TypeId} {n : Nat} (hg : GInv Z D β w) (hf : FlatRep D β w k c elems) (hn : ∀ e, β n e = none) :
    let w' := w.alloc (.cells c ty (0, 0))
    let β' := bAdd β n elems.length w.heap.size k
    Frm (fun o => o = n) D β w D β' w' ∧ GInv Z D β' w' ∧ ObjOk D β' w' n (.row k elems 0) := by
  intro w' β'
  have f1 : Frm (fun o => o = n) D β w D β w' := frm_alloc hg _
  have f2 : Frm (fun o => o = n) D β w' D β' w' := frm_bAdd rfl (hn _)
  have g1 : GInv Z D β w' := hg.alloc _ (fun _ _ _ h => by cases h; rfl)
  have g2 : GInv Z D β' w' := g1.bAdd hg.size0 (by simp [w']) (fun o' e' k' hb => by have := (hg.blt _ _ _ _ hb).2; omega) (fun ds hx => by rw [heap_alloc_new] at hx; cases hx)
  have ff := f1.trans f2
  refine ⟨ff, g2, hf.2.1, fun e b k' hb => ?_⟩
  rcases bAdd_cases hb with ⟨_, rfl, hy⟩ | ⟨hb, _⟩
  · cases hy
    refine ⟨fun hD => by have := hg.dlt _ hD; omega, rfl, Nat.le_refl _, fun _ => ⟨c, ty, heap_alloc_new _, hf.1, fun i x j t _ hx ht => ?_⟩⟩
    obtain ⟨v, h1, h2, h3⟩ := hf.2.2 i x j t hx ht
    exact ⟨v, h1, h2, h3.mono ff.ext⟩
  · rw [hn] at hb; cases hb

theorem dom_bAdd {n e0 b k : Nat} (hl : n < h'.length) : ∀ o e y, bAdd β n e0 b k o e = some y → (∃ e' y', β o e' = some y') ∨ o < h'.length := by
  intro o e y hy
  rcases bAdd_cases hy with ⟨rfl, _, _⟩ | ⟨hy, _⟩
  · exact .inr hl
  · exact .inl ⟨e, y, hy⟩

theorem get_append_new (h : Heap) (x : AObj) : (h ++ [x])[h.length]? = some x := by simp

theorem box_run (w : World) (ty : TypeId) (v : Value) : (Instr.box ty v).run P w = .ok (.pointer (some ⟨w.heap.size, 0, none⟩)) (w.alloc (.cells v.cells ty (0, 0))) := rfl

/-- A variable in a new object. -/
theorem newVar_done [Cp] {ty : TypeId} {v : Value} {x : AV} (hg : GInv Z D β w) (hr : Rep D β w v x) (hs : storableAll x.cells = true) (hx : x ≠ .dead) (hn : ∀ e, β h.length e = none) :
    Done Z D β w (h ++ [.row x.cells.length [x] 0]) (stepS [] h (h ++ [.row x.cells.length [x] 0])) (.ref h.length 1 0 0)
      (.ok (.value (.pointer (some ⟨w.heap.size, 0, none⟩))) (w.alloc (.cells v.cells ty (0, 0)))) := by
  obtain ⟨f, g, ob⟩ := row_new (ty := ty) hg (FlatRep.one hr hs hx) hn
  refine ⟨_, _, D, _, rfl, ?_, f.mono (fun o ho => by subst ho; exact .inr ⟨Nat.le_refl _, by simp⟩), g, fun o y hy he => ?_, dom_bAdd (by simp)⟩
  · have := Rep.ref (D := D) (w := w.alloc (.cells v.cells ty (0, 0))) h.length 1 0 0 w.heap.size x.cells.length (bAdd_same β h.length [x].length w.heap.size x.cells.length)
    simpa using this
  · rcases hy with hy | ⟨h1, h2⟩
    · simp at hy
    · have e : o = h.length := by simp at h2; omega
      subst e
      rw [get_append_new] at he
      cases he
      exact ob

/-- A variable that is never written: a tree. -/
theorem boxT_done [Cp] {ty : TypeId} {v : Value} {x : T} (hg : GInv Z D β w) (hr : RepT D w v x) (hs : storableAll (AV.t x).cells = true) :
    Done Z D β w h (stepS [] h h) (.t (.ip x.cells)) (.ok (.value (.pointer (some ⟨w.heap.size, 0, none⟩))) (w.alloc (.cells v.cells ty (0, 0)))) := by
  have hf := FlatRep.one (β := β) (.t _ _ hr) hs (by simp)
  have f : Frm (stepS [] h h) D β w (dAdd D w.heap.size) β (w.alloc (.cells v.cells ty (0, 0))) := frm_alloc_D hg _
  have hc := hr.cells
  refine ⟨_, _, dAdd D w.heap.size, β, rfl, .t _ _ ?_, f, (hg.alloc _ (fun _ _ _ h => by cases h; rfl)).dAdd (by simp) hg.size0 (fun ds hx => by rw [heap_alloc_new] at hx; cases hx), fun o y hy => ?_, fun o e y hy => .inl ⟨e, y, hy⟩⟩
  · refine .ip _ 0 _ (.inr rfl) (fun j => (v.cells[j]?).getD default) (fun j hj => ?_) (fun j t ht => ?_)
    · have hj' : j < v.cells.size := by rw [hc.1]; exact hj
      have hcj : v.cells[j]? = some v.cells[j] := by simp [hj']
      have ht : x.cells[j]? = some x.cells[j] := by simp [hj]
      have hok : okCell v.cells[j] = true := storable_ok (D := D) (β := β) (w := w) (storableAll_get hs (j := j) (by rw [tcells]; simp [ht])) (.t _ _ (hc.2 j _ _ hcj ht))
      simp only [hcj, Option.getD_some]
      refine ⟨?_, hok⟩
      have e := heap_alloc_new (w := w) (.cells v.cells ty (0, 0))
      simp only [World.cell?, e]
      simp
    · have hj : j < x.cells.length := (List.getElem?_eq_some_iff.1 ht).1
      have hj' : j < v.cells.size := by rw [hc.1]; exact hj
      have hcj : v.cells[j]? = some v.cells[j] := by simp [hj']
      simp only [hcj, Option.getD_some]
      exact (hc.2 j _ t hcj ht).mono f.ext.sub f.ext.same
  · rcases hy with hy | ⟨h1, h2⟩
    · simp at hy
    · omega

/-- A store into a variable or an element. -/
theorem store_done [Cp] {t : TypeId} {a x : AV} {va vx : Value} (hg : GInv Z D β w) (hst : aStore P t a x h = some h') (ha : Rep D β w va a) (hx : Rep D β w vx x)
    (hobj : ∀ (o : Nat) y, o ∈ objsOf a → h[o]? = some y → ObjOk D β w o y) :
    Done Z D β w h' (stepS (objsOf a) h h') (.t (.sc undef)) (((do Instr.storeAt t va vx; pure .skip : Sem Next)).run P w) ∧ (∀ o : Nat, ¬ stepS (objsOf a) h h' o → h'[o]? = h[o]?) ∧ h'.length = h.length := by
  unfold aStore at hst
  split at hst
  · rename_i o e i off size hs
    split at hst
    · rename_i k elems mr ho
      by_cases hc : e = elems.length ∧ x.cells.length = size ∧ mr ≤ e
      · rw [if_pos hc] at hst
        obtain ⟨he, hxl, hm⟩ := hc
        split at hst
        · rename_i old hold
          by_cases hc2 : off + size ≤ k ∧ 0 < size ∧ storableAll x.cells = true
          · rw [if_pos hc2] at hst
            obtain ⟨hoff, hpos, hsto⟩ := hc2
            simp at hst
            subst hst
            have hok := hobj o _ (by simp [objsOf]) ho
            have holt : o < h.length := (List.getElem?_eq_some_iff.1 ho).1
            cases ha with
            | ref _ _ _ _ b k' hb =>
              obtain ⟨hD, rfl, hel, hcc⟩ := hok.2 e b k' hb
              obtain ⟨c, ty, h1, h2, h3⟩ := hcc hm
              have hcx := hx.cells (cells_ne_dead (by omega))
              have hilt : i < elems.length := (List.getElem?_eq_some_iff.1 hold).1
              have hik : (i + 1) * k' ≤ elems.length * k' := Nat.mul_le_mul_right _ hilt
              have hik2 : (i + 1) * k' = i * k' + k' := Nat.succ_mul i k'
              have hvsz : vx.cells.toList.length = size := by simp [hcx.1, hxl]
              have hbound : i * k' + off + vx.cells.toList.length ≤ c.size := by rw [hvsz]; subst he; omega
              have hokc : ∀ v ∈ vx.cells.toList, okCell v = true := by
                intro v hv
                obtain ⟨j, hj, rfl⟩ := List.getElem_of_mem hv
                have hj' : j < x.cells.length := by rw [← hcx.1]; simpa using hj
                exact storable_ok (storableAll_get hsto (j := j) (t := x.cells[j]) (by simp [hj'])) (hcx.2 j _ x.cells[j] (by simp at hj; simp [hj]) (by simp [hj']))
              have hrun : (do Instr.storeAt t (.pointer (some ⟨b, i * k' + off, none⟩)) vx; pure Next.skip : Sem Next).run P w = .ok .skip (wrote w b (i * k' + off) vx.cells.toList) := by
                have hsz : ¬ (vx.cells.size ≠ size) := by simpa using hvsz
                simp only [Instr.storeAt, storeVar, Instr.sureAddr, Sem.run_bind, Sem.run_pure, Result.andThen, run_sizeOf hs]
                rw [if_neg hsz]
                have := run_storeCells (P := P) vx.cells.toList w b (i * k' + off) 0 c ty h1 (by simpa using hbound) hokc
                simp only [Nat.add_zero] at this
                simp [Result.andThen, this]
              obtain ⟨f, g⟩ := frm_wrote (S := stepS (objsOf (.ref o e i off)) h (h.set o (.row k' (elems.set i (pack old.isAgg (splice old.cells off x.cells))) e))) hg (off := i * k' + off) (vs := vx.cells.toList) (.inl (by simp [objsOf])) hb hD h1 hbound
              obtain ⟨e1, e2, e3, e4, c', e5, e6, e7⟩ := wrote_facts vx.cells.toList w b (i * k' + off) c ty (0, 0) h1 hbound
              have hocl : old.cells.length = k' := hok.1 i old hold
              have hpk : ∀ ag : Bool, (pack ag (splice old.cells off x.cells)).cells = splice old.cells off x.cells ∨ (ag = false ∧ ∃ q, splice old.cells off x.cells = [q]) := by
                intro ag
                unfold pack
                split
                · rename_i q hq; exact .inr ⟨rfl, q, hq⟩
                · exact .inl (mkAgg_cells _)
              have hspl : (splice old.cells off x.cells).length = k' := by rw [splice_length (by omega)]; exact hocl
              -- the new element's cells
              have hnew : (pack old.isAgg (splice old.cells off x.cells)).cells = splice old.cells off x.cells := by
                rcases hpk old.isAgg with hq | ⟨hag, q, hq⟩
                · exact hq
                · -- one cell
                  rw [hag, hq]
                  have hk1 : k' = 1 := by rw [← hspl, hq]; rfl
                  have hoff0 : off = 0 ∧ size = 1 := by omega
                  have hsx : splice old.cells off x.cells = x.cells := by
                    apply List.ext_getElem?
                    intro j
                    rw [splice_get (by omega)]
                    by_cases hj : off ≤ j ∧ j < off + x.cells.length
                    · rw [if_pos hj]; congr 1; omega
                    · rw [if_neg hj]
                      have h1' : x.cells[j]? = none := by simp; omega
                      have h2' : old.cells[j]? = none := by simp; omega
                      rw [h1', h2']
                  have hqx : x.cells = [q] := by rw [← hsx, hq]
                  have hqs : storable q = true := storableAll_get hsto (j := 0) (by simp [hqx])
                  show (pack false [q]).cells = [q]
                  simp only [pack]
                  cases q with
                  | t y => cases y <;> first | rfl | (simp [storable] at hqs)
                  | agg => simp [storable] at hqs
                  | dead => simp [storable] at hqs
                  | _ => rfl
              refine ⟨⟨_, _, D, β, hrun, rfl, f, g, fun o' y hy hyy => ?_, fun o' e' y' hy' => .inl ⟨e', y', hy'⟩⟩, fun o' ho' => ?_, by simp⟩
              · rcases hy with hy | ⟨hy1, hy2⟩
                · simp [objsOf] at hy
                  subst hy
                  have : (h.set o' (.row k' (elems.set i (pack old.isAgg (splice old.cells off x.cells))) e))[o']? = some (.row k' (elems.set i (pack old.isAgg (splice old.cells off x.cells))) e) := by simp [holt]
                  rw [this] at hyy
                  cases hyy
                  refine ⟨fun j y hy => ?_, fun e' b' k2 hb' => ?_⟩
                  · rw [List.getElem?_set] at hy
                    split at hy
                    · rename_i hij
                      subst hij
                      simp [hilt] at hy
                      subst hy
                      rw [hnew]; exact hspl
                    · exact hok.1 j y hy
                  · obtain ⟨q1, q2, q3, q4⟩ := hok.2 e' b' k2 hb'
                    refine ⟨q1, q2, by simpa using q3, fun hle => ?_⟩
                    have he' : e' = e := by omega
                    subst he'
                    rw [hb] at hb'
                    cases hb'
                    refine ⟨c', ty, e5, by rw [e6]; exact h2, fun j y m u hj hy hu => ?_⟩
                    rw [List.getElem?_set] at hy
                    split at hy
                    · rename_i hij
                      subst hij
                      simp [hilt] at hy
                      subst hy
                      rw [hnew, splice_get (by omega)] at hu
                      have hmk : m < k' := by
                        by_cases hm2 : off ≤ m ∧ m < off + x.cells.length
                        · omega
                        · rw [if_neg hm2] at hu
                          have := (List.getElem?_eq_some_iff.1 hu).1
                          omega
                      rw [e7]
                      by_cases hm2 : off ≤ m ∧ m < off + x.cells.length
                      · rw [if_pos hm2] at hu
                        rw [if_pos (by rw [hvsz]; omega)]
                        have hidx : i * k' + m - (i * k' + off) = m - off := by omega
                        rw [hidx]
                        have hlt : m - off < vx.cells.size := by rw [hcx.1]; omega
                        have hget : vx.cells[m - off]? = some vx.cells[m - off] := by simp [hlt]
                        have hrp := hcx.2 (m - off) _ u hget hu
                        exact ⟨vx.cells[m - off], by rw [← Array.getElem?_toList] at hget; exact hget, storable_ok (storableAll_get hsto hu) hrp, hrp.mono f.ext⟩
                      · rw [if_neg hm2] at hu
                        rw [if_neg (by rw [hvsz]; omega)]
                        obtain ⟨v, p1, p2, p3⟩ := h3 i old m u (by omega) hold hu
                        exact ⟨v, p1, p2, p3.mono f.ext⟩
                    · rename_i hij
                      rw [e7]
                      have hmk : m < k' := by
                        have h1 := (List.getElem?_eq_some_iff.1 hu).1
                        have h2 := hok.1 j y hy
                        omega
                      have hne : ¬ (i * k' + off ≤ j * k' + m ∧ j * k' + m < i * k' + off + vx.cells.toList.length) := by
                        rw [hvsz]
                        rcases Nat.lt_or_gt_of_ne hij with hlt | hgt
                        · have := Nat.mul_le_mul_right k' (show i + 1 ≤ j from hlt)
                          omega
                        · have h1 := Nat.mul_le_mul_right k' (show j + 1 ≤ i from hgt)
                          have h2 : (j + 1) * k' = j * k' + k' := Nat.succ_mul j k'
                          omega
                      rw [if_neg hne]
                      obtain ⟨v, p1, p2, p3⟩ := h3 j y m u (by omega) hy hu
                      exact ⟨v, p1, p2, p3.mono f.ext⟩
                · simp at hy2; omega
              · rw [List.getElem?_set, if_neg]
                rintro rfl
                exact ho' (.inl (by simp [objsOf]))
          · simp [hc2] at hst
        · simp at hst
      · simp [hc] at hst
    · simp at hst
  · simp at hst

end Go.Abs
