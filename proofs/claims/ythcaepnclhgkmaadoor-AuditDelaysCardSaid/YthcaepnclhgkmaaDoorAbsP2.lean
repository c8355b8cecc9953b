/- Snapshots, calls, code, functions, drawn orders: the evaluator is sound; the oracle of what it comes to. -/
import Derived.Test.YthcaepnclhgkmaaDoorAbsP1
import Derived.RangeFuncNested
import Derived.TacticsIn
import Derived.LoopNIn
import Derived.Scope
set_option linter.unusedVariables false
set_option linter.unusedSimpArgs false
set_option linter.unusedSectionVars false

/- Objects read as trees. -/
namespace Go.Abs
open Go

variable {P : Program} {Z : Base} {D D2 : Dom} {β β2 : Bet} {w : World} {h h' : Heap} {p : Nat → Bool}

theorem mapO_get {α γ : Type} {g : α → Option γ} {l : List α} {r : List γ} (h : mapO g l = some r) : l.length = r.length ∧ ∀ (i : Nat) a b, l[i]? = some a → r[i]? = some b → g a = some b := by
  induction l generalizing r with
  | nil => simp [mapO] at h; subst h; exact ⟨rfl, by simp⟩
  | cons x l ih =>
    simp only [mapO] at h
    split at h
    · rename_i b bs hb hbs
      simp at h; subst h
      obtain ⟨h1, h2⟩ := ih hbs
      refine ⟨by simp [h1], fun i a c ha hc => ?_⟩
      cases i with
      | zero => simp at ha hc; subst ha; subst hc; exact hb
      | succ i => exact h2 i a c (by simpa using ha) (by simpa using hc)
    · simp at h

theorem snap_t (d : Nat) (x : T) : snap h p d (.t x) = some x := by cases d <;> rfl

theorem snap_cells {d : Nat} {x : AV} {t : T} (hs : snap h p d x = some t) : x.cells.length = t.cells.length ∧ ∀ (j : Nat) c tc, x.cells[j]? = some c → t.cells[j]? = some tc → ∃ d', d' ≤ d ∧ snap h p d' c = some tc := by
  have single : x.cells = [x] → t.cells = [t] → x.cells.length = t.cells.length ∧ ∀ (j : Nat) c tc, x.cells[j]? = some c → t.cells[j]? = some tc → ∃ d', d' ≤ d ∧ snap h p d' c = some tc := by
    intro e1 e2
    rw [e1, e2]
    refine ⟨rfl, fun j c tc hc htc => ?_⟩
    cases j with
    | zero => simp at hc htc; subst hc; subst htc; exact ⟨d, Nat.le_refl _, hs⟩
    | succ j => simp at hc
  cases x with
  | t y =>
    rw [snap_t] at hs
    cases hs
    rw [tcells]
    refine ⟨by simp, fun j c tc hc htc => ?_⟩
    rw [List.getElem?_map, htc] at hc
    simp at hc
    subst hc
    exact ⟨0, Nat.zero_le _, snap_t 0 tc⟩
  | agg cs =>
    cases d with
    | zero => simp [snap] at hs
    | succ d =>
      simp only [snap] at hs
      split at hs
      · rename_i ts hts
        simp at hs; subst hs
        obtain ⟨h1, h2⟩ := mapO_get hts
        exact ⟨h1, fun j c tc hc htc => ⟨d, by omega, h2 j c tc hc htc⟩⟩
      · simp at hs
  | tup cs =>
    cases d with
    | zero => simp [snap] at hs
    | succ d =>
      simp only [snap] at hs
      split at hs
      · simp at hs; subst hs; exact single rfl rfl
      · simp at hs
  | fn g a b =>
    cases d with
    | zero => simp [snap] at hs
    | succ d =>
      simp only [snap] at hs
      split at hs
      · simp at hs; subst hs; exact single rfl rfl
      · simp at hs
  | ref o e i off =>
    cases d with
    | zero => simp [snap] at hs
    | succ d =>
      simp only [snap] at hs
      split at hs
      · split at hs
        · split at hs
          · simp at hs; subst hs; exact single rfl rfl
          · simp at hs
        · simp at hs
      · simp at hs
  | ms o e i len k clip =>
    cases d with
    | zero => simp [snap] at hs
    | succ d =>
      simp only [snap] at hs
      split at hs
      · split at hs
        · split at hs
          · simp at hs; subst hs; exact single rfl rfl
          · simp at hs
        · simp at hs
      · simp at hs
  | mp o => cases d <;> simp [snap] at hs
  | yl o => cases d <;> simp [snap] at hs
  | dead => cases d <;> simp [snap] at hs

/-- What an object reads as now is a tree in this world, as long as its blocks stay. -/
theorem snap_rep [Cp] (hobj : ∀ (o : Nat) x, p o = true → h[o]? = some x → ObjOk D β w o x) (hD : ∀ b, D b → D2 b) (hβ : ∀ o e b k, p o = true → β o e = some (b, k) → D2 b) :
    ∀ (d : Nat) (x : AV) (v : Value) (t : T), snap h p d x = some t → Rep D β w v x → RepT D2 w v t := by
  intro d
  induction d using Nat.strongRecOn with
  | _ d ih =>
    intro x v t hs hr
    cases x with
    | t y =>
      rw [snap_t] at hs
      cases hs
      exact hr.toT.mono hD (fun _ _ => rfl)
    | agg cs =>
      cases d with
      | zero => simp [snap] at hs
      | succ d =>
        simp only [snap] at hs
        split at hs
        · rename_i ts hts
          simp at hs; subst hs
          obtain ⟨h1, h2⟩ := mapO_get hts
          cases hr with
          | agg a _ hl hrr =>
            refine .agg a ts (by omega) fun i v t hv ht => ?_
            have hi : i < cs.length := by rw [h1]; exact (List.getElem?_eq_some_iff.1 ht).1
            have hc : cs[i]? = some cs[i] := by simp [hi]
            exact ih d (by omega) _ v t (h2 i _ t hc ht) (hrr i v _ hv hc)
        · simp at hs
    | tup cs =>
      cases d with
      | zero => simp [snap] at hs
      | succ d =>
        simp only [snap] at hs
        split at hs
        · rename_i ts hts
          simp at hs; subst hs
          obtain ⟨h1, h2⟩ := mapO_get hts
          cases hr with
          | tup a _ hl hrr =>
            refine .tup a ts (by omega) fun i v t hv ht => ?_
            have hi : i < cs.length := by rw [h1]; exact (List.getElem?_eq_some_iff.1 ht).1
            have hc : cs[i]? = some cs[i] := by simp [hi]
            exact ih d (by omega) _ v t (h2 i _ t hc ht) (hrr i v _ hv hc)
        · simp at hs
    | fn g x1 x2 =>
      cases d with
      | zero => simp [snap] at hs
      | succ d =>
        simp only [snap] at hs
        split at hs
        · rename_i ta tb hta htb
          simp at hs; subst hs
          obtain ⟨h1, h2⟩ := mapO_get hta
          obtain ⟨h3, h4⟩ := mapO_get htb
          cases hr with
          | fn _ a b _ _ ha hb q1 q2 =>
            refine .fn g a b ta tb (by omega) (by omega) (fun i v t hv ht => ?_) (fun i v t hv ht => ?_)
            · have hi : i < x1.length := by rw [h1]; exact (List.getElem?_eq_some_iff.1 ht).1
              have hc : x1[i]? = some x1[i] := by simp [hi]
              exact ih d (by omega) _ v t (h2 i _ t hc ht) (q1 i v _ hv hc)
            · have hi : i < x2.length := by rw [h3]; exact (List.getElem?_eq_some_iff.1 ht).1
              have hc : x2[i]? = some x2[i] := by simp [hi]
              exact ih d (by omega) _ v t (h4 i _ t hc ht) (q2 i v _ hv hc)
        · simp at hs
    | ref o e i off =>
      cases d with
      | zero => simp [snap] at hs
      | succ d =>
        simp only [snap] at hs
        split at hs
        · rename_i hp
          split at hs
          · rename_i y hy
            split at hs
            · rename_i ts hts
              simp at hs; subst hs
              obtain ⟨h1, h2⟩ := mapO_get hts
              obtain ⟨k, elems, mr, ho, hm, hi, he, hel⟩ := rowAt_some hy
              cases hr with
              | ref _ _ _ _ b k' hb =>
                obtain ⟨rfl, c, hcell⟩ := RowOk.cell (hobj o _ hp ho) hb hm hi hel
                refine .ip b (i * k' + off) _ (hβ o e b k' hp hb) (fun j => c (off + j)) (fun j hj => ?_) (fun j t ht => ?_)
                · have hlt : off + j < y.cells.length := by simp at hj; omega
                  have := hcell (off + j) y.cells[off + j] (by simp [hlt])
                  rw [Nat.add_assoc]
                  exact ⟨this.1, this.2.1⟩
                · rw [List.getElem?_drop] at ht
                  have hlt : off + j < y.cells.length := by rw [h1]; exact (List.getElem?_eq_some_iff.1 ht).1
                  have hc : y.cells[off + j]? = some y.cells[off + j] := by simp [hlt]
                  exact ih d (by omega) _ _ t (h2 _ _ t hc ht) (hcell _ _ hc).2.2
            · simp at hs
          · simp at hs
        · simp at hs
    | ms o e i len k clip =>
      cases d with
      | zero => simp [snap] at hs
      | succ d =>
        simp only [snap] at hs
        split at hs
        · rename_i hp
          split at hs
          · rename_i es hes
            split at hs
            · rename_i ts hts
              simp at hs; subst hs
              obtain ⟨h1, h2⟩ := mapO_get hts
              obtain ⟨k2, elems, mr, ho, _, hm, hel, hil, rfl⟩ := elems_ms hes
              have hlen : ((elems.drop i).take len).length = len := by simp; omega
              have htl : ts.length = len := by omega
              rcases ms_inv hr with ⟨hl, a, hv⟩ | ⟨b, cap, n, hbb, hle, hcapl, hclip, hn, hsz, hv⟩
              · subst hv
                have : ts = [] := List.eq_nil_of_length_eq_zero (by omega)
                subst this
                exact .nosl a 0 clip k (fun _ => rfl)
              · subst hv
                have hrok := hobj o _ hp ho
                obtain ⟨hDb, hk2, _, hcc⟩ := hrok.2 e b k hbb
                subst hk2
                obtain ⟨c, ty, q1, q2, q3⟩ := hcc hm
                have hget : ∀ j, j < len → ((elems.drop i).take len)[j]? = elems[i + j]? := by
                  intro j hj
                  rw [List.getElem?_take, if_pos hj, List.getElem?_drop]
                have helem : ∀ j, j < len → ∃ y, elems[i + j]? = some y ∧ ((elems.drop i).take len)[j]? = some y := by
                  intro j hj
                  have hlt : i + j < elems.length := by omega
                  exact ⟨elems[i + j], by simp [hlt], by rw [hget j hj]; simp [hlt]⟩
                have hkt : ∀ (j : Nat) x, ts[j]? = some x → x.cells.length = k := by
                  intro j x hx
                  have hj : j < len := by have := (List.getElem?_eq_some_iff.1 hx).1; omega
                  obtain ⟨y, hy1, hy2⟩ := helem j hj
                  have := (snap_cells (h2 j y x hy2 hx)).1
                  rw [← this]; exact hrok.1 _ y hy1
                have hcell : ∀ (j : Nat) x (q : Nat) t, ts[j]? = some x → x.cells[q]? = some t → ∃ v, c[(i + j) * k + q]? = some v ∧ okCell v = true ∧ RepT D2 w v t := by
                  intro j x q t hx ht
                  have hj : j < len := by have := (List.getElem?_eq_some_iff.1 hx).1; omega
                  obtain ⟨y, hy1, hy2⟩ := helem j hj
                  obtain ⟨g1, g2⟩ := snap_cells (h2 j y x hy2 hx)
                  have hq : q < y.cells.length := by rw [g1]; exact (List.getElem?_eq_some_iff.1 ht).1
                  have hc : y.cells[q]? = some y.cells[q] := by simp [hq]
                  obtain ⟨d', hd', hsn⟩ := g2 q _ t hc ht
                  obtain ⟨v, p1, p2, p3⟩ := q3 (i + j) y q _ (by omega) hy1 hc
                  exact ⟨v, p1, p2, ih d' (by omega) _ v t hsn p3⟩
                refine .sl b (i * k) len cap clip k ts (hβ o e b k hp hbb) (by omega) hcapl hclip hkt (fun j => (c[i * k + j]?).getD default) (fun j hj => ?_) (fun j x q t hx ht => ?_)
                · by_cases hk0 : k = 0
                  · subst hk0; simp at hj
                  · have hdiv : j / k < len := (Nat.div_lt_iff_lt_mul (by omega)).2 hj
                    have hmod : j % k < k := Nat.mod_lt _ (by omega)
                    have hxd : ts[j / k]? = some ts[j / k] := by rw [List.getElem?_eq_getElem (by omega)]
                    have hcl := hkt _ _ hxd
                    obtain ⟨v, p1, p2, _⟩ := hcell _ _ (j % k) _ hxd (List.getElem?_eq_getElem (by rw [hcl]; exact hmod))
                    have hjj : (i + j / k) * k + j % k = i * k + j := by
                      have := Nat.div_add_mod j k
                      rw [Nat.mul_comm] at this
                      rw [Nat.add_mul]; omega
                    rw [hjj] at p1
                    simp only [p1, Option.getD_some]
                    exact ⟨by simp [World.cell?, q1, p1], p2⟩
                · obtain ⟨v, p1, p2, p3⟩ := hcell j x q t hx ht
                  have hjj : i * k + (j * k + q) = (i + j) * k + q := by rw [Nat.add_mul]; omega
                  rw [hjj]
                  simp only [p1, Option.getD_some]
                  exact p3
            · simp at hs
          · simp at hs
        · simp at hs
    | mp o => cases d <;> simp [snap] at hs
    | yl o => cases d <;> simp [snap] at hs
    | dead => cases d <;> simp [snap] at hs

theorem avoidAll_get {l : List AV} (ha : avoidAll p l = true) {i : Nat} {x : AV} (hx : l[i]? = some x) : avoid p x = true := by
  induction l generalizing i with
  | nil => simp at hx
  | cons c r ih =>
    simp [avoidAll] at ha
    cases i with
    | zero => simp at hx; subst hx; exact ha.1
    | succ i => exact ih ha.2 (by simpa using hx)

/-- A value that names nothing of p goes on without it. -/
theorem avoid_rep (hD : ∀ b, D b → D2 b) (hβ : ∀ o e y, p o = false → β o e = some y → β2 o e = some y) {v : Value} {x : AV} (hr : Rep D β w v x) (ha : avoid p x = true) : Rep D2 β2 w v x := by
  induction hr with
  | t v x hx => exact .t v x (hx.mono hD (fun _ _ => rfl))
  | agg cs ts hl _ ih => simp [avoid] at ha; exact .agg cs ts hl (fun i v t hv ht => ih i v t hv ht (avoidAll_get ha ht))
  | tup cs ts hl _ ih => simp [avoid] at ha; exact .tup cs ts hl (fun i v t hv ht => ih i v t hv ht (avoidAll_get ha ht))
  | fn f a b x y h1 h2 _ _ ih1 ih2 =>
    simp [avoid] at ha
    exact .fn f a b x y h1 h2 (fun i v t hv ht => ih1 i v t hv ht (avoidAll_get ha.1 ht)) (fun i v t hv ht => ih2 i v t hv ht (avoidAll_get ha.2 ht))
  | ref o e i off b k hb => simp [avoid] at ha; exact .ref o e i off b k (hβ o e _ ha hb)
  | ms0 a o e i k clip => exact .ms0 a o e i k clip
  | ms o e i len k clip b cap n hb hle hcap hclip hn hsz => simp [avoid] at ha; exact .ms o e i len k clip b cap n (hβ o e _ ha hb) hle hcap hclip hn hsz
  | mp o b k hb => simp [avoid] at ha; exact .mp o b k (hβ o 0 _ ha hb)
  | yl o b k hb => simp [avoid] at ha; exact .yl o b k (hβ o 0 _ ha hb)
  | dead v => exact .dead v

theorem frzCell_rep [Cp] (hobj : ∀ (o : Nat) x, p o = true → h[o]? = some x → ObjOk D β w o x) (hD : ∀ b, D b → D2 b) (hβ1 : ∀ o e b k, p o = true → β o e = some (b, k) → D2 b)
    (hβ2 : ∀ o e y, p o = false → β o e = some y → β2 o e = some y) {v : Value} {x y : AV} (hf : frzCell h p x = some y) (hr : Rep D β w v x) : Rep D2 β2 w v y := by
  unfold frzCell at hf
  split at hf
  · rename_i ha
    simp at hf; subst hf
    exact avoid_rep hD hβ2 hr ha
  · split at hf
    · rename_i t ht
      simp at hf; subst hf
      exact .t _ _ (snap_rep hobj hD hβ1 20 x v t ht hr)
    · simp at hf

theorem frz_rep [Cp] (hobj : ∀ (o : Nat) x, p o = true → h[o]? = some x → ObjOk D β w o x) (hD : ∀ b, D b → D2 b) (hβ1 : ∀ o e b k, p o = true → β o e = some (b, k) → D2 b)
    (hβ2 : ∀ o e y, p o = false → β o e = some y → β2 o e = some y) {v : Value} {x y : AV} (hf : frz h p x = some y) (hr : Rep D β w v x) : Rep D2 β2 w v y := by
  unfold frz at hf
  split at hf
  · rename_i cs
    split at hf
    · rename_i ha
      simp at hf; subst hf
      exact avoid_rep hD hβ2 hr (by simpa [avoid] using ha)
    · split at hf
      · rename_i ds hds
        simp at hf; subst hf
        obtain ⟨h1, h2⟩ := mapO_get hds
        cases hr with
        | agg a _ hl hrr =>
          refine Rep.mkAgg (by omega) fun i v t hv ht => ?_
          have hi : i < cs.length := by rw [h1]; exact (List.getElem?_eq_some_iff.1 ht).1
          have hc : cs[i]? = some cs[i] := by simp [hi]
          exact frzCell_rep hobj hD hβ1 hβ2 (h2 i _ t hc ht) (hrr i v _ hv hc)
      · simp at hf
  · exact frzCell_rep hobj hD hβ1 hβ2 hf hr

theorem avoid_cells {x : AV} (ha : avoid p x = true) {j : Nat} {c : AV} (hc : x.cells[j]? = some c) : avoid p c = true := by
  cases x with
  | t y => rw [tcells, List.getElem?_map, Option.map_eq_some_iff] at hc; obtain ⟨u, _, rfl⟩ := hc; rfl
  | agg cs => exact avoidAll_get (p := p) (l := cs) (by simpa [avoid] using ha) hc
  | dead => simp [AV.cells] at hc
  | _ =>
    cases j with
    | zero => simp [AV.cells] at hc; subst hc; exact ha
    | succ j => simp [AV.cells] at hc

/-- The cells of a value that was turned. -/
theorem frz_cells [Cp] (hobj : ∀ (o : Nat) x, p o = true → h[o]? = some x → ObjOk D β w o x) (hD : ∀ b, D b → D2 b) (hβ1 : ∀ o e b k, p o = true → β o e = some (b, k) → D2 b)
    (hβ2 : ∀ o e y, p o = false → β o e = some y → β2 o e = some y) {x y : AV} (hf : frz h p x = some y) :
    x.cells.length = y.cells.length ∧ ∀ (j : Nat) c d v, x.cells[j]? = some c → y.cells[j]? = some d → Rep D β w v c → Rep D2 β2 w v d := by
  have av : ∀ {x : AV}, avoid p x = true → x.cells.length = x.cells.length ∧ ∀ (j : Nat) c d v, x.cells[j]? = some c → x.cells[j]? = some d → Rep D β w v c → Rep D2 β2 w v d := by
    intro x ha
    refine ⟨rfl, fun j c d v hc hd hr => ?_⟩
    rw [hc] at hd
    cases hd
    exact avoid_rep hD hβ2 hr (avoid_cells ha hc)
  have cellc : ∀ {x y : AV}, frzCell h p x = some y → x.cells.length = y.cells.length ∧ ∀ (j : Nat) c d v, x.cells[j]? = some c → y.cells[j]? = some d → Rep D β w v c → Rep D2 β2 w v d := by
    intro x y hf
    unfold frzCell at hf
    split at hf
    · rename_i ha
      simp at hf; subst hf
      exact av ha
    · split at hf
      · rename_i t ht
        simp at hf; subst hf
        obtain ⟨g1, g2⟩ := snap_cells ht
        rw [tcells]
        refine ⟨by simpa using g1, fun j c d v hc hd hr => ?_⟩
        rw [List.getElem?_map, Option.map_eq_some_iff] at hd
        obtain ⟨u, hu, rfl⟩ := hd
        obtain ⟨d', _, hs⟩ := g2 j c u hc hu
        exact .t _ _ (snap_rep hobj hD hβ1 d' c v u hs hr)
      · simp at hf
  unfold frz at hf
  split at hf
  · rename_i cs
    split at hf
    · rename_i ha
      simp at hf; subst hf
      exact av (by simpa [avoid] using ha)
    · split at hf
      · rename_i ds hds
        simp at hf; subst hf
        obtain ⟨h1, h2⟩ := mapO_get hds
        rw [mkAgg_cells]
        refine ⟨h1, fun j c d v hc hd hr => ?_⟩
        exact frzCell_rep hobj hD hβ1 hβ2 (h2 j c d hc hd) hr
      · simp at hf
  · exact cellc hf

theorem frz_avoid {x : AV} (ha : avoid p x = true) : frz h p x = some x := by
  unfold frz
  split
  · rename_i cs
    have : avoidAll p cs = true := by simpa [avoid] using ha
    simp [this]
  · simp [frzCell, ha]

theorem mapO_frz_avoid {l : List AV} (ha : avoidAll p l = true) : mapO (frz h p) l = some l := by
  induction l with
  | nil => rfl
  | cons c r ih =>
    simp [avoidAll] at ha
    simp [mapO, frz_avoid ha.1, ih ha.2]

theorem mapO_frzEntry_avoid {l : List (Value × AV)} (ha : l.all (fun kv => avoid p kv.2) = true) : mapO (frzEntry h p) l = some l := by
  induction l with
  | nil => rfl
  | cons c r ih =>
    simp only [List.all_cons, Bool.and_eq_true] at ha
    simp [mapO, frzEntry, frz_avoid ha.1, ih ha.2]

/-- An object outside p, with what it names of p turned. -/
theorem frzObj_ok [Cp] (hobj : ∀ (o : Nat) x, p o = true → h[o]? = some x → ObjOk D β w o x) (hD : ∀ b, D b → D2 b) (hβ1 : ∀ o e b k, p o = true → β o e = some (b, k) → D2 b)
    (hβ2 : ∀ o e y, p o = false → β o e = some y → β2 o e = some y) (hβ3 : ∀ o e y, p o = false → β2 o e = some y → β o e = some y) (hβ4 : ∀ o e b k, p o = false → β o e = some (b, k) → D2 b → D b)
    {o : Nat} {x y : AObj} (ho : p o = false) (hx : ObjOk D β w o x) (hf : frzObj h p x = some y) : ObjOk D2 β2 w o y := by
  cases x with
  | gone => simp [frzObj] at hf; subst hf; trivial
  | row k es mr =>
    have hf' : ∃ es', mapO (frz h p) es = some es' ∧ y = .row k es' mr := by
      simp only [frzObj] at hf
      split at hf
      · rename_i ha; simp at hf; exact ⟨es, mapO_frz_avoid ha, hf.symm⟩
      · split at hf
        · rename_i es' he; simp at hf; exact ⟨es', he, hf.symm⟩
        · simp at hf
    obtain ⟨es', he, rfl⟩ := hf'
    obtain ⟨h1, h2⟩ := mapO_get he
    have hc : ∀ (i : Nat) x', es'[i]? = some x' → ∃ x, es[i]? = some x ∧ frz h p x = some x' := by
      intro i x' hx'
      have hi : i < es.length := by rw [h1]; exact (List.getElem?_eq_some_iff.1 hx').1
      have hxi : es[i]? = some es[i] := by simp [hi]
      exact ⟨_, hxi, h2 i _ x' hxi hx'⟩
    refine ⟨fun i x' hx' => ?_, fun e b k' hb => ?_⟩
    · obtain ⟨x, hx1, hx2⟩ := hc i x' hx'
      rw [← (frz_cells hobj hD hβ1 hβ2 hx2).1]
      exact hx.1 i x hx1
    · have hb' := hβ3 o e _ ho hb
      obtain ⟨hDb, hk, hle, hcc⟩ := hx.2 e b k' hb'
      refine ⟨fun q => hDb (hβ4 o e b k' ho hb' q), hk, by omega, fun hm => ?_⟩
      obtain ⟨c, ty, q1, q2, q3⟩ := hcc hm
      refine ⟨c, ty, q1, q2, fun i x' j t hi hx' ht => ?_⟩
      obtain ⟨x, hx1, hx2⟩ := hc i x' hx'
      obtain ⟨g1, g2⟩ := frz_cells hobj hD hβ1 hβ2 hx2
      have hj : j < x.cells.length := by rw [g1]; exact (List.getElem?_eq_some_iff.1 ht).1
      have hcj : x.cells[j]? = some x.cells[j] := by simp [hj]
      obtain ⟨v, r1, r2, r3⟩ := q3 i x j _ hi hx1 hcj
      exact ⟨v, r1, r2, g2 j _ t v hcj ht r3⟩
  | map es =>
    have hf' : ∃ es', mapO (frzEntry h p) es = some es' ∧ y = .map es' := by
      simp only [frzObj] at hf
      split at hf
      · rename_i ha; simp only [Option.some.injEq] at hf; exact ⟨es, mapO_frzEntry_avoid ha, hf.symm⟩
      · split at hf
        · rename_i es' he; simp at hf; exact ⟨es', he, hf.symm⟩
        · simp at hf
    obtain ⟨es', he, rfl⟩ := hf'
    obtain ⟨h1, h2⟩ := mapO_get he
    intro e b k hb
    have hb' := hβ3 o e _ ho hb
    obtain ⟨h0, hDb, mes, clock, q1, q2, q3⟩ := hx e b k hb'
    refine ⟨h0, fun q => hDb (hβ4 o e b k ho hb' q), mes, clock, q1, by omega, fun i m kv' hm hk' => ?_⟩
    have hi : i < es.length := by rw [h1]; exact (List.getElem?_eq_some_iff.1 hk').1
    have hxi : es[i]? = some es[i] := by simp [hi]
    have hfe := h2 i _ kv' hxi hk'
    obtain ⟨r1, r2⟩ := q3 i m _ hm hxi
    unfold frzEntry at hfe
    split at hfe
    · rename_i v hv
      simp at hfe; subst hfe
      exact ⟨r1, frz_rep hobj hD hβ1 hβ2 hv r2⟩
    · simp at hfe
  | loop f env params assign body busy pending =>
    simp only [frzObj] at hf
    split at hf
    · rename_i ha
      simp at hf; subst hf
      intro e b k hb
      have hb' := hβ3 o e _ ho hb
      obtain ⟨h0, hDb, L, q1, q2, q3, q4, q5, q6, q7, q8⟩ := hx e b k hb'
      exact ⟨h0, fun q => hDb (hβ4 o e b k ho hb' q), L, q1, q2, q3, q4, q5, q6, q7, q8.1, fun i v x hv hx => avoid_rep hD hβ2 (q8.2 i v x hv hx) (avoidAll_get ha hx)⟩
    · simp at hf

/-- D with the blocks of the objects of p. -/
def dObj (D : Dom) (β : Bet) (p : Nat → Bool) : Dom := fun b => D b ∨ ∃ o e k, p o = true ∧ β o e = some (b, k)

theorem GInv.dObj (hg : GInv Z D β w) (p : Nat → Bool) : GInv Z (dObj D β p) β w :=
  { hg with
    dlt := fun b hb => hb.elim (hg.dlt b) (fun ⟨o, e, k, _, h⟩ => (hg.blt o e b k h).2)
    dn := fun b hb hl => hb.elim (fun h => hg.dn b h hl) (fun ⟨o, e, k, _, h⟩ => absurd (hg.blt o e b k h).1 (by omega))
    nd := fun b ds hb hN => ⟨fun hd => hd.elim (hg.nd b ds hb hN).1 (fun ⟨o, e, k, _, h⟩ => (hg.nd b ds hb hN).2 o e k h), (hg.nd b ds hb hN).2⟩ }

theorem dObj_other (hg : GInv Z D β w) {o e b k : Nat} (ho : p o = false) (hb : β o e = some (b, k)) (hd : dObj D β p b) : D b := by
  rcases hd with hd | ⟨o', e', k', hp, hb'⟩
  · exact hd
  · have := hg.inj _ _ _ _ _ _ _ hb hb'
    subst this
    simp [ho] at hp

theorem frzEnv_rep [Cp] (hobj : ∀ (o : Nat) x, p o = true → h[o]? = some x → ObjOk D β w o x) (hD : ∀ b, D b → D2 b) (hβ1 : ∀ o e b k, p o = true → β o e = some (b, k) → D2 b)
    (hβ2 : ∀ o e y, p o = false → β o e = some y → β2 o e = some y) {tmps : Array Value} {env : Env} (he : EnvRep D β w tmps env) : EnvRep D2 β2 w tmps (frzEnv h p env) := by
  refine ⟨by simp [frzEnv, he.1], fun i v x hv hx => ?_⟩
  simp only [frzEnv, List.getElem?_map, Option.map_eq_some_iff] at hx
  obtain ⟨y, hy, rfl⟩ := hx
  split
  · rename_i z hz
    exact frz_rep hobj hD hβ1 hβ2 hz (he.2 i v y hv hy)
  · exact .dead v

/-- β below n. -/
def bBelow (β : Bet) (n : Nat) : Bet := fun o e => if o < n then β o e else none

theorem bBelow_some {n o e : Nat} {y : Nat × Nat} (h : bBelow β n o e = some y) : o < n ∧ β o e = some y := by
  unfold bBelow at h
  split at h
  · exact ⟨by assumption, h⟩
  · simp at h

theorem GInv.below (hg : GInv Z D β w) (n : Nat) : GInv Z D (bBelow β n) w :=
  { hg with
    blt := fun o e b k h => hg.blt o e b k (bBelow_some h).2
    inj := fun o e b k o' e' k' h h' => hg.inj o e b k o' e' k' (bBelow_some h).2 (bBelow_some h').2
    nd := fun b ds hb hN => ⟨(hg.nd b ds hb hN).1, fun o e k h => (hg.nd b ds hb hN).2 o e k (bBelow_some h).2⟩ }

theorem shrink_ok [Cp] {n : Nat} {env env' : Env} (hs : shrink n env h = some (env', h')) (hi : Inv Z D β h w) : ∃ D2 β2, Inv Z D2 β2 h' w ∧ (∀ tmps, EnvRep D β w tmps env → EnvRep D2 β2 w tmps env') ∧
    (∀ b, D b → D2 b) ∧ (∀ o e y, o < n → β o e = some y → β2 o e = some y) ∧ h'.length = min n h.length := by
  unfold shrink at hs
  split at hs
  · rename_i hl
    simp at hs
    obtain ⟨rfl, rfl⟩ := hs
    exact ⟨D, β, hi, fun _ h => h, fun _ h => h, fun _ _ _ _ h => h, by omega⟩
  · rename_i hl
    split at hs
    · rename_i h2 hm
      simp at hs
      obtain ⟨rfl, rfl⟩ := hs
      obtain ⟨q1, q2⟩ := mapO_get hm
      have hlen : h2.length = n := by rw [← q1]; simp; omega
      have hobj : ∀ (o : Nat) x, fromB n o = true → h[o]? = some x → ObjOk D β w o x := fun o x _ hx => hi.obj o x hx
      have hD : ∀ b, D b → dObj D β (fromB n) b := fun b hb => .inl hb
      have hβ1 : ∀ o e b k, fromB n o = true → β o e = some (b, k) → dObj D β (fromB n) b := fun o e b k hp hb => .inr ⟨o, e, k, hp, hb⟩
      have hβ2 : ∀ o e y, fromB n o = false → β o e = some y → bBelow β n o e = some y := by
        intro o e y hp hb
        simp [fromB] at hp
        simp [bBelow, hp, hb]
      have hβ3 : ∀ o e y, fromB n o = false → bBelow β n o e = some y → β o e = some y := fun o e y _ hb => (bBelow_some hb).2
      refine ⟨dObj D β (fromB n), bBelow β n, ⟨(hi.g.dObj _).below n, fun o y hy => ?_, fun o e y hy => by rw [hlen]; exact (bBelow_some hy).1⟩, fun tmps he => frzEnv_rep hobj hD hβ1 hβ2 he, hD, fun o e y ho hb => hβ2 o e y (by simp [fromB]; omega) hb, by omega⟩
      have ho : o < n := by rw [← hlen]; exact (List.getElem?_eq_some_iff.1 hy).1
      have hx : (h.take n)[o]? = some h[o] := by simp [ho]
      have hx' : h[o]? = some h[o] := by simp
      have hp : fromB n o = false := by simp [fromB]; omega
      exact frzObj_ok hobj hD hβ1 hβ2 hβ3 (fun o e b k hp hb hd => dObj_other hi.g hp hb hd) hp (hi.obj o _ hx') (q2 o _ y hx hy)
    · simp at hs

theorem goneOf_get {p : Nat → Bool} : ∀ {l : Heap} {i : Nat} {l' : Heap}, goneOf h p i l = some l' → l.length = l'.length ∧ ∀ (j : Nat) x y, l[j]? = some x → l'[j]? = some y → (p (i + j) = true ∧ y = .gone) ∨ (p (i + j) = false ∧ frzObj h p x = some y) := by
  intro l
  induction l with
  | nil => intro i l' hg; simp [goneOf] at hg; subst hg; exact ⟨rfl, by simp⟩
  | cons a r ih =>
    intro i l' hg
    simp only [goneOf] at hg
    split at hg
    · rename_i y ys hy hys
      simp at hg; subst hg
      obtain ⟨h1, h2⟩ := ih hys
      refine ⟨by simp [h1], fun j x z hx hz => ?_⟩
      cases j with
      | zero =>
        simp at hx hz
        subst hx; subst hz
        by_cases hp : p i = true
        · simp [hp] at hy; exact .inl ⟨hp, hy.symm⟩
        · simp [hp] at hy; exact .inr ⟨by simpa using hp, hy⟩
      | succ j =>
        have := h2 j x z (by simpa using hx) (by simpa using hz)
        have e : i + 1 + j = i + (j + 1) := by omega
        rwa [e] at this
    · simp at hg

theorem freeze_ok [Cp] {os : List Nat} {env env' : Env} (hs : freeze os env h = some (env', h')) (hi : Inv Z D β h w) : ∃ D2, Inv Z D2 β h' w ∧ (∀ tmps, EnvRep D β w tmps env → EnvRep D2 β w tmps env') ∧
    (∀ b, D b → D2 b) ∧ h'.length = h.length := by
  unfold freeze at hs
  split at hs
  · rename_i h2 hm
    simp only [Option.some.injEq, Prod.mk.injEq] at hs
    obtain ⟨rfl, rfl⟩ := hs
    generalize hpe : (fun o => os.contains o) = p at hm ⊢
    obtain ⟨q1, q2⟩ := goneOf_get hm
    have hobj : ∀ (o : Nat) x, p o = true → h[o]? = some x → ObjOk D β w o x := fun o x _ hx => hi.obj o x hx
    have hD : ∀ b, D b → dObj D β p b := fun b hb => .inl hb
    have hβ1 : ∀ o e b k, p o = true → β o e = some (b, k) → dObj D β p b := fun o e b k hp hb => .inr ⟨o, e, k, hp, hb⟩
    refine ⟨dObj D β p, ⟨hi.g.dObj _, fun o y hy => ?_, fun o e y hy => by rw [← q1]; exact hi.dom o e y hy⟩, fun tmps he => frzEnv_rep hobj hD hβ1 (fun _ _ _ _ h => h) he, hD, q1.symm⟩
    have ho : o < h.length := by rw [q1]; exact (List.getElem?_eq_some_iff.1 hy).1
    have hx : h[o]? = some h[o] := by simp
    rcases q2 o _ y hx hy with ⟨hp, rfl⟩ | ⟨hp, hf⟩
    · trivial
    · simp only [Nat.zero_add] at hp
      exact frzObj_ok hobj hD hβ1 (fun _ _ _ _ h => h) (fun _ _ _ _ h => h) (fun o e b k hp hb hd => dObj_other hi.g hp hb hd) hp (hi.obj o _ hx) hf
  · simp at hs

theorem keepOnly_rep {ts : List Tmp} {env : Env} {tmps : Array Value} (he : EnvRep D β w tmps env) : EnvRep D β w tmps (keepOnly ts env) := by
  refine ⟨by simp [keepOnly, he.1], fun i v x hv hx => ?_⟩
  simp only [keepOnly, List.getElem?_mapIdx, Option.map_eq_some_iff] at hx
  obtain ⟨y, hy, rfl⟩ := hx
  split
  · exact he.2 i v y hv hy
  · exact .dead v

theorem tidy_rep {live : Option (List Tmp)} {env : Env} {tmps : Array Value} (he : EnvRep D β w tmps env) : EnvRep D β w tmps (tidy live env) := by
  unfold tidy
  split
  · exact keepOnly_rep he
  · exact he

end Go.Abs

/- What a call owes, and the steps of the machine that the evaluator's single operations stand for. -/
namespace Go.Abs
open Go

variable {P : Program} {pol : Pol} {K : Oracle} {I : Inl} {Z : Base} {D D' : Dom} {β β' : Bet} {w w' : World} {h h' : Heap} {ro : Option Nat}

/-- All machines are let in; a round's frame or not. -/
def FW (ro : Option Nat) : Fence := { Fence.wide with round := ro }

theorem callsIn_FW {n : Nat} {f : FuncId} {args : Array Value} {R : Ending → World → Prop} (hc : CallsIn Fence.wide n P f args w R) : CallsIn (FW ro) n P f args w R := hc
theorem roundIn_FW {n l : Nat} {f : FuncId} {tmps : Array Value} {assign body : Code} {R : Ending → World → Prop} (hc : RoundIn Fence.wide n P l f tmps assign body w R) : RoundIn (FW ro) n P l f tmps assign body w R := hc

/-- The variables of the program that are read as trees. -/
structure GlobOk (pol : Pol) (D : Dom) (w : World) : Prop where
  rep : ∀ g x, pol.glob g = some x → RepT D w (.pointer (some ⟨g, 0, none⟩)) x
  row : ∀ g ts, pol.glob g = some (.ip ts) → D g ∧ ∃ cs ty fr, w.heap[g]? = some (.cells cs ty fr) ∧ cs.size = ts.length

theorem GlobOk.mono (hg : GlobOk pol D w) (hx : Ext D β w D' β' w') : GlobOk pol D' w' :=
  ⟨fun g x h => (hg.rep g x h).mono hx.sub hx.same, fun g ts h => let ⟨hd, cs, ty, fr, hc, hn⟩ := hg.row g ts h; ⟨hx.sub g hd, cs, ty, fr, (hx.same g hd).trans hc, hn⟩⟩

theorem GlobOk.sub (hg : GlobOk pol D w) (hs : ∀ b, D b → D' b) : GlobOk pol D' w :=
  ⟨fun g x h => (hg.rep g x h).mono hs (fun _ _ => rfl), fun g ts h => let ⟨hd, r⟩ := hg.row g ts h; ⟨hs g hd, r⟩⟩

/-- Nothing that lay has changed. -/
structure KeptW (w w' : World) : Prop where
  size : w.heap.size ≤ w'.heap.size
  old : ∀ b, b < w.heap.size → w'.heap[b]? = w.heap[b]?
  os : w'.os = w.os
  out : w'.output = w.output

/-- The blocks of D, and all new ones that hold something. -/
def newD (D : Dom) (w w' : World) : Dom := fun b => D b ∨ (w.heap.size ≤ b ∧ b < w'.heap.size ∧ ∀ ds, w'.heap[b]? ≠ some (.deferred ds))

theorem ext_kept (hk : KeptW w w') (hd : ∀ b, D b → b < w.heap.size) : Ext D β w (newD D w w') β w' where
  sub b hb := .inl hb
  same b hb := hk.old b (hd b hb)
  bet _ _ _ h := h
  rows b n hn := by
    unfold rowSize at *
    cases hb : w.heap[b]? with
    | none => simp [hb] at hn
    | some x => rw [hk.old b (lt_of_heap hb), hb]; simpa [hb] using hn
  defs b ds h := (hk.old b (lt_of_heap h)).trans h
  loops b L h := ⟨L, (hk.old b (lt_of_heap h)).trans h⟩
  size := hk.size

theorem frm_kept {S : Nat → Prop} (hk : KeptW w w') (hg : GInv Z D β w) : Frm S D β w (newD D w w') β w' ∧ GInv Z (newD D w w') β w' := by
  refine ⟨⟨ext_kept hk hg.dlt, fun o e b k _ hb => ?_, fun _ _ _ => rfl⟩, ?_⟩
  · have := (hg.blt o e b k hb).2
    exact ⟨hk.old b this, fun h => h.elim id (fun h => by omega)⟩
  · have hs := hg.size0
    refine ⟨by have := hk.size; omega, fun b hb => (hk.old b (by omega)).trans (hg.old b hb), hk.os.trans hg.os, hk.out.trans hg.out, fun b hb => ?_, fun b hb hl => ?_, fun o e b k hb => ?_, hg.inj, fun b ds hb hN => ?_⟩
    · rcases hb with hb | hb
      · have := hg.dlt b hb; have := hk.size; omega
      · exact hb.2.1
    · rcases hb with hb | hb
      · exact hg.dn b hb hl
      · omega
    · have := hg.blt o e b k hb; have := hk.size; omega
    · by_cases h : b < w.heap.size
      · have hb' := hb
        rw [hk.old b h] at hb'
        obtain ⟨q1, q2⟩ := hg.nd b ds hb' hN
        exact ⟨fun hd => hd.elim q1 (fun x => by omega), q2⟩
      · exact ⟨fun hd => hd.elim (fun x => h (hg.dlt b x)) (fun x => x.2.2 ds hb), fun o e k hk' => h (hg.blt o e b k hk').2⟩

def Callable (P : Program) (f : FuncId) : Prop := ∃ fn c, P.funcs[f]? = some fn ∧ fn.body = some c ∧ fn.name ≠ "runtime.NumGoroutine"

theorem run_callFunc {f : FuncId} (hf : Callable P f) (args : Array Value) (w : World) : (callFunc f args).run P w = .ok (.enter f args) w := by
  obtain ⟨fn, c, h1, h2, h3⟩ := hf
  simp [callFunc, program, Sem.run, bind, Sem.bind, h1, h2, h3, pure]

/-- A function that reads trees and hands back a tree, and changes nothing that lay. -/
def PureSim (P : Program) (pol : Pol) (f : FuncId) (ts : List T) (r : T) : Prop :=
  Callable P f ∧ ∀ (w : World) (D : Dom) (args : Array Value), (∀ b, D b → b < w.heap.size) → GlobOk pol D w → args.size = ts.length →
    (∀ (i : Nat) v t, args[i]? = some v → ts[i]? = some t → RepT D w v t) → CallsIn Fence.wide 0 P f args w (fun e w' => ∃ v, e = .returned v ∧ KeptW w w' ∧ RepT (newD D w w') w' v r)

def KOk (P : Program) (pol : Pol) (K : Oracle) : Prop := ∀ f ts r, K f ts = some r → PureSim P pol f ts r

/-- What a call in the caller's heap ends in. -/
def InlPost [Cp] (pol : Pol) (Z : Base) (D : Dom) (β : Bet) (w : World) (v : AV) (h' : Heap) (e : Ending) (w' : World) : Prop :=
  ∃ v', e = .returned v' ∧ ∃ D' β', Inv Z D' β' h' w' ∧ GlobOk pol D' w' ∧ Ext D β w D' β' w' ∧ Rep D' β' w' v' v

structure IOk [Cp] (P : Program) (pol : Pol) (I : Inl) : Prop where
  fn : ∀ f args h v h', I (.fn f) args h = some (v, h') → Callable P f ∧ ∀ (Z : Base) (D : Dom) (β : Bet) (w : World) (vs : List Value), Inv Z D β h w → GlobOk pol D w → RepL D β w vs args →
    CallsIn Fence.wide 0 P f vs.toArray w (InlPost pol Z D β w v h')
  yl : ∀ o args h v h', I (.yl o) args h = some (v, h') → ∀ (Z : Base) (D : Dom) (β : Bet) (w : World) (vs : List Value) (b k : Nat), Inv Z D β h w → GlobOk pol D w → RepL D β w vs args → β o 0 = some (b, k) →
    ∃ g tmps assign body, (Instr.yield b vs.toArray).run P w = .ok (.round b g tmps assign body) w ∧ RoundIn Fence.wide 0 P b g tmps assign body w (InlPost pol Z D β w v h')

/-! ### Operands -/

theorem eval_rep {a : Act} {env : Env} (he : EnvRep D β w a.tmps env) (hg : GlobOk pol D w) (x : Operand) : Rep D β w (a.eval x) (evalOperand pol env x) := by
  cases x with
  | tmp t =>
    simp only [Act.eval, evalOperand]
    by_cases ht : t < env.length
    · have h1 : env[t]? = some env[t] := by simp [ht]
      have ht' : t < a.tmps.size := by rw [he.1]; exact ht
      have h2 : a.tmps[t]? = some a.tmps[t] := by simp [ht']
      have := he.2 t _ _ h2 h1
      rw [Array.getD_eq_getD_getElem?, h2, List.getD_eq_getElem?_getD, h1]
      exact this
    · rw [List.getD_eq_getElem?_getD, List.getElem?_eq_none (Nat.le_of_not_lt ht)]
      exact .dead _
  | const v =>
    simp only [Act.eval, evalOperand]
    split
    · rename_i hv; exact .t _ _ (okVal_rep hv)
    · exact .dead _
  | global g =>
    simp only [Act.eval, evalOperand]
    split
    · rename_i x hx; exact .t _ _ (hg.rep g x hx)
    · exact .dead _
  | func f => exact .t _ _ (.fn _ #[] #[] [] [] rfl rfl (by simp) (by simp))

theorem EnvRep.set {tmps : Array Value} {env : Env} (he : EnvRep D β w tmps env) (d : Nat) {v : Value} {x : AV} (hr : Rep D β w v x) : EnvRep D β w (tmps.setIfInBounds d v) (env.set d x) := by
  refine ⟨by simp [he.1], fun i u y hu hy => ?_⟩
  rw [Array.getElem?_setIfInBounds] at hu
  rw [List.getElem?_set] at hy
  by_cases hi : d = i
  · subst hi
    by_cases hl : d < env.length
    · have hl' : d < tmps.size := by rw [he.1]; exact hl
      simp [hl'] at hu
      simp [hl] at hy
      subst hu; subst hy
      exact hr
    · simp [hl] at hy
  · simp [hi] at hu hy
    exact he.2 i u y hu hy

theorem EnvRep.put {a : Act} {env : Env} (he : EnvRep D β w a.tmps env) (dst : Option Tmp) {v : Value} {x : AV} (hr : Rep D β w v x) : EnvRep D β w (a.put dst v).tmps (Go.Abs.put env dst x) := by
  cases dst with
  | none => exact he
  | some d => exact he.set d hr

theorem put_defers (a : Act) (dst : Option Tmp) (v : Value) : (a.put dst v).defers = a.defers := by cases dst <;> rfl

theorem undef_rep : Rep D β w undef (.t (.sc undef)) := .t _ _ (.sc _ rfl)

/-! ### Calls -/

theorem repL_args {ρ : Operand → AV} {ρr : Operand → Value} (hρ : ∀ x, Rep D β w (ρr x) (ρ x)) (l : List Operand) : RepL D β w (l.map ρr) (l.map ρ) := by
  refine ⟨by simp, fun i v x hv hx => ?_⟩
  rw [List.getElem?_map, Option.map_eq_some_iff] at hv hx
  obtain ⟨a, ha, rfl⟩ := hv
  obtain ⟨b, hb, rfl⟩ := hx
  rw [ha] at hb
  cases hb
  exact hρ a

theorem RepL.append {vs vs' : List Value} {xs xs' : List AV} (h1 : RepL D β w vs xs) (h2 : RepL D β w vs' xs') : RepL D β w (vs ++ vs') (xs ++ xs') := by
  refine ⟨by simp [h1.1, h2.1], fun i v x hv hx => ?_⟩
  rw [List.getElem?_append] at hv hx
  rw [← h1.1] at hx
  split at hv
  · rename_i hi; rw [if_pos hi] at hx; exact h1.2 i v x hv hx
  · rename_i hi; rw [if_neg hi] at hx; exact h2.2 _ v x hv hx

theorem RepL.mono {vs : List Value} {xs : List AV} (hx : Ext D β w D' β' w') (h1 : RepL D β w vs xs) : RepL D' β' w' vs xs := ⟨h1.1, fun i v x hv he => (h1.2 i v x hv he).mono hx⟩

theorem repL_trees {a : Array Value} {ts : List T} (hs : a.size = ts.length) (hr : ∀ (i : Nat) v t, a[i]? = some v → ts[i]? = some t → RepT D w v t) : RepL D β w a.toList (ts.map .t) := by
  refine ⟨by simp [hs], fun i v x hv hx => ?_⟩
  rw [List.getElem?_map, Option.map_eq_some_iff] at hx
  obtain ⟨t, ht, rfl⟩ := hx
  exact .t _ _ (hr i v t (by simpa using hv) ht)

theorem repL_of {a : Array Value} {xs : List AV} (hs : a.size = xs.length) (hr : ∀ (i : Nat) v t, a[i]? = some v → xs[i]? = some t → Rep D β w v t) : RepL D β w a.toList xs :=
  ⟨by simp [hs], fun i v x hv hx => hr i v x (by simpa using hv) hx⟩

/-- How a callee's value leads on. -/
theorem callee_run {x : AV} {vx : Value} {args args' : List AV} {vs : List Value} {g : Tgt} (ha : aCallee x args = some (.call g args')) (hx : Rep D β w vx x) (hr : RepL D β w vs args) :
    ∃ d vs', (∀ w, (Deferred.ofValue vx vs.toArray).run P w = .ok d w) ∧ RepL D β w vs' args' ∧
      (match g with
       | .fn f => ∀ w, (invoke d.target d.args).run P w = (callFunc f vs'.toArray).run P w
       | .yl o => ∃ b k, β o 0 = some (b, k) ∧ ∀ w, (invoke d.target d.args).run P w = (Instr.yield b vs'.toArray).run P w) := by
  have fnCase : ∀ {f : Fn} {a b : Array Value} {x1 x2 : List AV}, callOf x1 f x2 args = some (.call g args') → vx = .func f a b → RepL D β w a.toList x1 → RepL D β w b.toList x2 →
      ∃ d vs', (∀ w, (Deferred.ofValue vx vs.toArray).run P w = .ok d w) ∧ RepL D β w vs' args' ∧
      (match g with
       | .fn f => ∀ w, (invoke d.target d.args).run P w = (callFunc f vs'.toArray).run P w
       | .yl o => ∃ b k, β o 0 = some (b, k) ∧ ∀ w, (invoke d.target d.args).run P w = (Instr.yield b vs'.toArray).run P w) := by
    intro f a b x1 x2 hc hv h1 h2
    unfold callOf at hc
    split at hc
    · rename_i gf
      cases hc
      subst hv
      refine ⟨{ target := .fn (.func gf) b, args := a ++ vs.toArray }, a.toList ++ vs ++ b.toList, fun w => rfl, (h1.append hr).append h2, fun w => ?_⟩
      have e : a ++ vs.toArray ++ b = (a.toList ++ vs ++ b.toList).toArray := by apply Array.ext'; simp
      simp only [invoke]
      rw [e]
    · simp at hc
  unfold aCallee at ha
  split at ha
  · rename_i f first captured
    have ht := hx.toT
    cases ht with
    | fn _ a b _ _ s1 s2 r1 r2 => exact fnCase ha rfl (repL_trees s1 r1) (repL_trees s2 r2)
  · rename_i f first captured
    cases hx with
    | fn _ a b _ _ s1 s2 r1 r2 => exact fnCase ha rfl (repL_of s1 r1) (repL_of s2 r2)
  · rename_i o
    simp at ha
    obtain ⟨rfl, rfl⟩ := ha
    cases hx with
    | yl _ b k hb =>
      refine ⟨{ target := .fn (.yield b) #[], args := #[] ++ vs.toArray }, vs, fun w => rfl, hr, b, k, hb, fun w => ?_⟩
      simp [invoke]
  · simp at ha

theorem plain_rep {r : T} {v : Value} (hp : r.plain = true) (hr : RepT D w v r) : RepT D' w' v r := by
  have scs : ∀ {cs : Array Value} {ts : List T}, cs.size = ts.length → (∀ (i : Nat) v t, cs[i]? = some v → ts[i]? = some t → RepT D w v t) → (ts.all fun | .sc _ => true | _ => false) = true →
      ∀ (i : Nat) v t, cs[i]? = some v → ts[i]? = some t → RepT D' w' v t := by
    intro cs ts hl h hall i v t hv ht
    have hm := List.all_eq_true.1 hall t (List.mem_of_getElem? ht)
    have hr := h i v t hv ht
    cases t <;> simp at hm
    obtain ⟨rfl, hn⟩ := hr.sc_eq
    exact .sc _ hn
  cases hr with
  | sc v hv => exact .sc v hv
  | agg cs ts hl h => exact .agg cs ts hl (scs hl h hp)
  | tup cs ts hl h =>
    refine .tup cs ts hl fun i v t hv ht => ?_
    have hm := List.all_eq_true.1 hp t (List.mem_of_getElem? ht)
    have hr := h i v t hv ht
    cases hr with
    | sc v hv => exact .sc v hv
    | agg cs ts hl h => exact .agg cs ts hl (scs hl h hm)
    | _ => simp at hm
  | _ => simp [T.plain] at hp

/-- The machine's step at a call that enters a function. -/
theorem wpIn_enter {o : Oper} {a : Act} {c : Call} {g : Operand} {f : FuncId} {vs : Array Value} {next : Act → World → Prop} {Q : Exit → Act → World → Prop} {d : Deferred} (ho : o.op = .call c) (hc : c.callee = .value g)
    (hd : (Deferred.ofValue (a.eval g) (c.args.map a.eval)).run P w = .ok d w) (hi : (invoke d.target d.args).run P w = .ok (.enter f vs) w) {R : Ending → World → Prop} (hcall : CallsIn Fence.wide 0 P f vs w R)
    (hn : ∀ e w', R e w' → ∃ v, e = .returned v ∧ next (a.put o.dst v) w') : o.wpIn (FW ro) 0 P a w next Q := by
  refine ⟨fun _ _ => trivial, ?_⟩
  rw [Oper.semAt_eq _ _ _ (by rw [ho]; simp)]
  have hex : (execOp a.eval o).run P w = .ok (.enter f vs) w := by
    simp only [execOp, ho, resolve, hc, Sem.run_bind, hd, Result.andThen, hi]
  rw [hex, Oper.uponIn_enter]
  refine ⟨fun hd => by simp [FW, Fence.wide] at hd, callsIn_FW (CallsIn.mono hcall fun e w' hR => ?_)⟩
  obtain ⟨v, rfl, hx⟩ := hn e w' hR
  exact hx

theorem wpIn_round {o : Oper} {a : Act} {c : Call} {g : Operand} {l : Nat} {f : FuncId} {tmps : Array Value} {assign body : Code} {next : Act → World → Prop} {Q : Exit → Act → World → Prop} {d : Deferred} (ho : o.op = .call c) (hc : c.callee = .value g)
    (hd : (Deferred.ofValue (a.eval g) (c.args.map a.eval)).run P w = .ok d w) (hi : (invoke d.target d.args).run P w = .ok (.round l f tmps assign body) w) {R : Ending → World → Prop} (hcall : RoundIn Fence.wide 0 P l f tmps assign body w R)
    (hn : ∀ e w', R e w' → ∃ v, e = .returned v ∧ next (a.put o.dst v) w') : o.wpIn (FW ro) 0 P a w next Q := by
  refine ⟨fun _ _ => trivial, ?_⟩
  rw [Oper.semAt_eq _ _ _ (by rw [ho]; simp)]
  have hex : (execOp a.eval o).run P w = .ok (.round l f tmps assign body) w := by
    simp only [execOp, ho, resolve, hc, Sem.run_bind, hd, Result.andThen, hi]
  rw [hex, Oper.uponIn_round]
  refine ⟨fun hd => by simp [FW, Fence.wide] at hd, roundIn_FW (RoundIn.mono hcall fun e w' hR => ?_)⟩
  obtain ⟨v, rfl, hx⟩ := hn e w' hR
  exact hx

/-- The machine's step at an operation that is no call of a function. -/
theorem wpIn_done [Cp] {o : Oper} {a : Act} {S : Nat → Prop} {v : AV} {next : Act → World → Prop} {Q : Exit → Act → World → Prop} (ho : ∀ c, o.op ≠ .defer c) (hd : Done Z D β w h' S v ((execOp a.eval o).run P w))
    (hn : ∀ v' w' D' β', Rep D' β' w' v' v → Frm S D β w D' β' w' → GInv Z D' β' w' → (∀ (o : Nat) x, S o → h'[o]? = some x → ObjOk D' β' w' o x) → (∀ o e y, β' o e = some y → (∃ e' y', β o e' = some y') ∨ o < h'.length) → next (a.put o.dst v') w') :
    o.wpIn (FW ro) 0 P a w next Q := by
  refine ⟨fun _ _ => trivial, ?_⟩
  rw [Oper.semAt_eq _ _ _ ho]
  obtain ⟨nx, w', D', β', hr, hm, hf, hg, hob, hdm⟩ := hd
  rw [hr]
  cases nx with
  | value v' => exact hn v' w' D' β' hm hf hg hob hdm
  | skip => exact hn undef w' D' β' (by rw [hm]; exact undef_rep) hf hg hob hdm
  | _ => exact hm.elim

end Go.Abs

/- One operation of the evaluator, and the machine's step that it stands for; regions in the order of the text. -/
namespace Go.Abs
open Go

variable {P : Program} {pol : Pol} {K : Oracle} {I : Inl} {Z : Base} {D D' : Dom} {β β' : Bet} {w w' : World} {h h' : Heap} {ro : Option Nat} {M : Nat} {f : FuncId} {ρ : Operand → AV}

theorem aBuiltin_call {b : Builtin} {at_ : List TypeId} {ty : TypeId} {xs : List AV} {g : Tgt} {args : List AV} : aBuiltin P b at_ ty xs h ≠ some (.call g args) := by
  intro ha
  unfold aBuiltin at ha
  split at ha
  · split at ha <;> try (simp at ha)
    split at ha <;> try (simp at ha)
    all_goals (split at ha <;> try (simp at ha))
    all_goals (split at ha <;> simp at ha)
  · split at ha <;> try (simp at ha)
    split at ha <;> try (simp at ha)
    split at ha <;> simp at ha
  · split at ha <;> try (simp at ha)
    split at ha <;> simp at ha
  · simp at ha
  · simp at ha
  · simp at ha

theorem aOp_call {o : Oper} {g : Tgt} {args : List AV} (ha : aOp P pol f ρ h o = some (.call g args)) : ∃ c x, o.op = .call c ∧ c.callee = .value x ∧ aCallee (ρ x) (c.args.toList.map ρ) = some (.call g args) := by
  have flag : ∀ {x : Option AV}, (match x with | some v => some (Res.val v h) | none => none) ≠ some (.call g args) := by
    intro x hx
    cases x <;> simp at hx
  have hflag : ∀ {x : Option Heap}, (match x with | some h' => some (Res.skip h') | none => none) ≠ some (.call g args) := by
    intro x hx
    cases x <;> simp at hx
  cases hop : o.op with
  | call c =>
    simp only [aOp, hop] at ha
    split at ha
    · exact absurd ha aBuiltin_call
    · rename_i x hx; exact ⟨c, x, rfl, hx, ha⟩
    · simp at ha
  | move x => simp [aOp, hop] at ha
  | assign x =>
    exfalso; revert ha; simp only [aOp, hop]; repeat' split
    all_goals (intro ha; cases ha)
  | pick c a b =>
    exfalso; revert ha; simp only [aOp, hop]; repeat' split
    all_goals (intro ha; cases ha)
  | alloc t =>
    exfalso; revert ha; simp only [aOp, hop]; repeat' split
    all_goals (intro ha; cases ha)
  | box t x =>
    exfalso; revert ha; simp only [aOp, hop]; repeat' split
    all_goals (intro ha; cases ha)
  | build t parts => simp only [aOp, hop] at ha; exact absurd ha flag
  | buildSlice t len parts =>
    exfalso; revert ha; simp only [aOp, hop]; repeat' split
    all_goals (intro ha; cases ha)
  | load t a => simp only [aOp, hop] at ha; exact absurd ha flag
  | store t a x => simp only [aOp, hop] at ha; exact absurd ha hflag
  | nilCheck x =>
    exfalso; revert ha; simp only [aOp, hop]; repeat' split
    all_goals (intro ha; cases ha)
  | binOp op t x y yt => simp only [aOp, hop] at ha; exact absurd ha flag
  | unOp op t x =>
    exfalso; revert ha; simp only [aOp, hop]; repeat' split
    all_goals (intro ha; cases ha)
  | convert s t x =>
    exfalso; revert ha; simp only [aOp, hop]; repeat' split
    all_goals (intro ha; cases ha)
  | makeFunc fn first captured =>
    exfalso; revert ha; simp only [aOp, hop]; repeat' split
    all_goals (intro ha; cases ha)
  | makeMap t r => cases r <;> simp [aOp, hop] at ha
  | makeSlice t l c =>
    exfalso; revert ha; simp only [aOp, hop]; repeat' split
    all_goals (intro ha; cases ha)
  | slice t x lo hi mx => simp only [aOp, hop] at ha; exact absurd ha flag
  | fieldAddr s x fi => simp only [aOp, hop] at ha; exact absurd ha flag
  | field s x fi =>
    simp only [aOp, hop] at ha
    split at ha
    · exact absurd ha flag
    · simp at ha
  | indexAddr t x ix => simp only [aOp, hop] at ha; exact absurd ha flag
  | index t x ix => simp only [aOp, hop] at ha; exact absurd ha flag
  | lookup t x ix ok => simp only [aOp, hop] at ha; exact absurd ha flag
  | mapUpdate t m k x => simp only [aOp, hop] at ha; exact absurd ha hflag
  | insert t m k x => simp only [aOp, hop] at ha; exact absurd ha hflag
  | extract x i =>
    simp only [aOp, hop] at ha
    split at ha
    · split at ha <;> simp at ha
    · exact absurd ha flag
    · simp at ha
  | _ => simp [aOp, hop] at ha

theorem aOp_noDefer {o : Oper} {r : Res} (ha : aOp P pol f ρ h o = some r) : ∀ c, o.op ≠ .defer c := by
  intro c hc
  simp [aOp, hc] at ha

/-- The marks of an activation's loops over functions. -/
def Marks (M : Nat) (w : World) (ds : List Deferred) : Prop :=
  ∃ rs : List Nat, ds = rs.map (fun r => { target := .collected r, args := #[] }) ∧ rs.Nodup ∧ ∀ r ∈ rs, M ≤ r ∧ w.heap[r]? = some (.deferred (some []))

theorem Marks.mono {ds : List Deferred} (hm : Marks M w ds) (hx : Ext D β w D' β' w') : Marks M w' ds := by
  obtain ⟨rs, h1, h2, h3⟩ := hm
  exact ⟨rs, h1, h2, fun r hr => ⟨(h3 r hr).1, hx.defs r _ (h3 r hr).2⟩⟩

theorem Marks.nil : Marks M w [] := ⟨[], rfl, .nil, by simp⟩

structure St [Cp] (pol : Pol) (Z : Base) (M : Nat) (D : Dom) (β : Bet) (h : Heap) (w : World) (ro : Option Nat) (a : Act) (env : Env) : Prop where
  inv : Inv Z D β h w
  env : EnvRep D β w a.tmps env
  glob : GlobOk pol D w
  marks : Marks M w a.defers
  round : ∀ l, ro = some l → ∃ L, w.heap[l]? = some (.loop L)

theorem St.rep [Cp] {a : Act} {env : Env} (hs : St pol Z M D β h w ro a env) (x : Operand) : Rep D β w (a.eval x) (evalOperand pol env x) := eval_rep hs.env hs.glob x

/-- On to a later world, one temporary written. -/
theorem St.next [Cp] {a : Act} {env : Env} (hs : St pol Z M D β h w ro a env) (hx : Ext D β w D' β' w') (hi : Inv Z D' β' h' w') {v : Value} {x : AV} (hr : Rep D' β' w' v x) (dst : Option Tmp) :
    St pol Z M D' β' h' w' ro (a.put dst v) (put env dst x) where
  inv := hi
  env := (hs.env.mono hx).put dst hr
  glob := hs.glob.mono hx
  marks := by rw [put_defers]; exact hs.marks.mono hx
  round l hl := let ⟨L, hL⟩ := hs.round l hl; hx.loops l L hL

theorem Inv.fresh [Cp] (hi : Inv Z D β h w) : ∀ o e, h.length ≤ o → β o e = none := by
  intro o e h1
  cases hb : β o e with
  | none => rfl
  | some y => exact absurd (hi.dom o e y hb) (by omega)

theorem Inv.done [Cp] {tch : List Nat} (hi : Inv Z D β h w) (hf : Frm (stepS tch h h') D β w D' β' w') (hg : GInv Z D' β' w') (hob : ∀ (o : Nat) x, stepS tch h h' o → h'[o]? = some x → ObjOk D' β' w' o x)
    (hdm : ∀ o e y, β' o e = some y → (∃ e' y', β o e' = some y') ∨ o < h'.length) (hsame : ∀ o, ¬ stepS tch h h' o → h'[o]? = h[o]?) (hl : h.length ≤ h'.length) : Inv Z D' β' h' w' := by
  refine hi.step hg hf hsame hob hl fun o e y _ hy => ?_
  rcases hdm o e y hy with ⟨e', y', hy'⟩ | h
  · exact Nat.lt_of_lt_of_le (hi.dom o e' y' hy') hl
  · exact h

theorem Good.parts [Cp] {tch : List Nat} {v : AV} {r : Result Next} (hg : Good Z D β w h h' tch v r) : Done Z D β w h' (stepS tch h h') v r ∧ (∀ o, ¬ stepS tch h h' o → h'[o]? = h[o]?) ∧ h.length ≤ h'.length := hg

theorem Inv.kept [Cp] (hi : Inv Z D β h w) (hk : KeptW w w') : Inv Z (newD D w w') β h w' := by
  obtain ⟨hf, hg⟩ := frm_kept (S := fun _ => False) hk hi.g
  exact hi.step hg hf (fun _ _ => rfl) (fun _ _ h => h.elim) (Nat.le_refl _) (fun _ _ _ h => h.elim)

theorem mapO_snap_rep [Cp] {args : List AV} {ts : List T} {vs : List Value} (hi : Inv Z D β h w) (hm : mapO (snap h allObj 20) args = some ts) (hr : RepL D β w vs args) :
    vs.toArray.size = ts.length ∧ ∀ (i : Nat) v t, vs.toArray[i]? = some v → ts[i]? = some t → RepT (dObj D β allObj) w v t := by
  obtain ⟨h1, h2⟩ := mapO_get hm
  refine ⟨by simp [hr.1, h1], fun i v t hv ht => ?_⟩
  have hi' : i < args.length := by rw [h1]; exact (List.getElem?_eq_some_iff.1 ht).1
  have hx : args[i]? = some args[i] := by simp [hi']
  exact snap_rep (fun o x _ hx => hi.obj o x hx) (fun b hb => .inl hb) (fun o e b k hp hb => .inr ⟨o, e, k, hp, hb⟩) 20 _ v t (h2 i _ t hx ht) (hr.2 i v _ (by simpa using hv) hx)

/-- A call whose arguments are trees. -/
theorem pure_call {o : Oper} {a : Act} {next : Act → World → Prop} {Q : Exit → Act → World → Prop} {g : FuncId} {args : List AV} {ts : List T} {r : T} (hK : KOk P pol K) (ha : aOp P pol f ρ h o = some (.call (.fn g) args))
    (hts : allT args = some ts) (hr : K g ts = some r) (hd : ∀ b, D b → b < w.heap.size) (hgl : GlobOk pol D w) (hρ : ∀ x, Rep D β w (a.eval x) (ρ x))
    (hn : ∀ v w', KeptW w w' → RepT (newD D w w') w' v r → next (a.put o.dst v) w') : o.wpIn (FW ro) 0 P a w next Q := by
  obtain ⟨c, x, ho, hc, hcal⟩ := aOp_call ha
  obtain ⟨d, vs', hd1, hrl, hrun⟩ := callee_run (P := P) hcal (hρ x) (repL_args hρ c.args.toList)
  obtain ⟨hcl, hsim⟩ := hK g ts r hr
  have e := allT_eq hts
  subst e
  have hargs : c.args.map a.eval = (c.args.toList.map a.eval).toArray := by apply Array.ext'; simp
  refine wpIn_enter ho hc (by rw [hargs]; exact hd1 w) ((hrun w).trans (run_callFunc hcl _ w)) (hsim w D vs'.toArray hd hgl (by simpa using hrl.1) (fun i v t hv ht => ?_)) (fun e w' hR => ?_)
  · exact (hrl.2 i v (.t t) (by simpa using hv) (by simp [ht])).toT
  · obtain ⟨v, rfl, hk, hv⟩ := hR
    exact ⟨v, rfl, hn v w' hk hv⟩

/-- Any call, the whole heap at hand. -/
theorem full_call [Cp] {o : Oper} {a : Act} {next : Act → World → Prop} {Q : Exit → Act → World → Prop} {g : Tgt} {args : List AV} {v : AV} (hK : KOk P pol K) (hI : IOk P pol I) (ha : aOp P pol f ρ h o = some (.call g args))
    (hcall : aCall pol K I f (o.dst.getD 0) g args h = some (v, h')) (hi : Inv Z D β h w) (hgl : GlobOk pol D w) (hρ : ∀ x, Rep D β w (a.eval x) (ρ x))
    (hn : ∀ v' w' D' β', Rep D' β' w' v' v → Inv Z D' β' h' w' → Ext D β w D' β' w' → next (a.put o.dst v') w') : o.wpIn (FW ro) 0 P a w next Q := by
  obtain ⟨c, x, ho, hc, hcal⟩ := aOp_call ha
  obtain ⟨d, vs', hd1, hrl, hrun⟩ := callee_run (P := P) hcal (hρ x) (repL_args hρ c.args.toList)
  have hargs : c.args.map a.eval = (c.args.toList.map a.eval).toArray := by apply Array.ext'; simp
  have hd1' : (Deferred.ofValue (a.eval x) (c.args.map a.eval)).run P w = .ok d w := by rw [hargs]; exact hd1 w
  have post : ∀ e w', InlPost pol Z D β w v h' e w' → ∃ v', e = .returned v' ∧ next (a.put o.dst v') w' := by
    rintro e w' ⟨v', rfl, D', β', h1, h2, h3, h4⟩
    exact ⟨v', rfl, hn v' w' D' β' h4 h1 h3⟩
  cases g with
  | yl l =>
    simp only [aCall] at hcall
    obtain ⟨b, k, hb, hrun⟩ := hrun
    obtain ⟨g, tmps, assign, body, hy, hround⟩ := hI.yl l args h v h' hcall Z D β w vs' b k hi hgl hrl hb
    exact wpIn_round ho hc hd1' ((hrun w).trans hy) hround post
  | fn g =>
    have viaI : I (.fn g) args h = some (v, h') → o.wpIn (FW ro) 0 P a w next Q := by
      intro hi'
      obtain ⟨hcl, hsim⟩ := hI.fn g args h v h' hi'
      exact wpIn_enter ho hc hd1' ((hrun w).trans (run_callFunc hcl _ w)) (hsim Z D β w vs' hi hgl hrl) post
    simp only [aCall] at hcall
    split at hcall
    · exact viaI hcall
    · split at hcall
      · rename_i ts hts
        split at hcall
        · rename_i r hr
          simp at hcall
          obtain ⟨rfl, rfl⟩ := hcall
          refine pure_call hK ha hts hr hi.g.dlt hgl hρ (fun v' w' hk hv => hn v' w' _ _ (.t _ _ hv) (hi.kept hk) (ext_kept hk hi.g.dlt))
        · simp at hcall
      · split at hcall
        · rename_i ts hts
          split at hcall
          · rename_i r hr
            split at hcall
            · rename_i hp
              simp at hcall
              obtain ⟨rfl, rfl⟩ := hcall
              obtain ⟨hcl, hsim⟩ := hK g ts r hr
              obtain ⟨hsz, hrt⟩ := mapO_snap_rep hi hts hrl
              have hdl : ∀ b, dObj D β allObj b → b < w.heap.size := (hi.g.dObj allObj).dlt
              have hgl2 : GlobOk pol (dObj D β allObj) w := ⟨fun g x hx => (hgl.rep g x hx).mono (fun b hb => .inl hb) (fun _ _ => rfl), fun g ts h => let ⟨hd, r⟩ := hgl.row g ts h; ⟨.inl hd, r⟩⟩
              refine wpIn_enter ho hc hd1' ((hrun w).trans (run_callFunc hcl _ w)) (hsim w _ _ hdl hgl2 hsz hrt) (fun e w' hR => ?_)
              obtain ⟨v', rfl, hk, hv⟩ := hR
              exact ⟨v', rfl, hn v' w' _ _ (.t _ _ (plain_rep hp hv)) (hi.kept hk) (ext_kept hk hi.g.dlt)⟩
            · simp at hcall
          · simp at hcall
        · exact viaI hcall

theorem step1_sim [Cp] {o : Oper} {env env' : Env} {a : Act} {next : Act → World → Prop} {Q : Exit → Act → World → Prop} (hK : KOk P pol K) (hI : IOk P pol I) (hs : aStep1 P pol K I f o env h = some (env', h')) (hst : St pol Z M D β h w ro a env)
    (hn : ∀ D' β' w' a', St pol Z M D' β' h' w' ro a' env' → Ext D β w D' β' w' → next a' w') : o.wpIn (FW ro) 0 P a w next Q := by
  have plain : ∀ r v, aOp P pol f (evalOperand pol env) h o = some r → resVal r = some (v, h') → env' = put env o.dst v → o.wpIn (FW ro) 0 P a w next Q := by
    intro r v ha hv he
    subst he
    obtain ⟨hd, hsame, hl⟩ := (op_good (ρr := a.eval) ha hv hst.inv.g hst.rep (fun o e h1 _ => hst.inv.fresh o e h1) (fun o' y _ hy => hst.inv.obj o' y hy)).parts
    refine wpIn_done (aOp_noDefer ha) hd fun v' w' D' β' hr hf hg hob hdm => ?_
    exact hn D' β' w' _ (hst.next hf.ext (hst.inv.done hf hg hob hdm hsame hl) hr o.dst) hf.ext
  unfold aStep1 at hs
  split at hs
  · rename_i v h2 ha
    simp at hs
    obtain ⟨rfl, rfl⟩ := hs
    exact plain _ v ha rfl rfl
  · rename_i h2 ha
    simp at hs
    obtain ⟨rfl, rfl⟩ := hs
    exact plain _ _ ha rfl rfl
  · rename_i g args ha
    split at hs
    · rename_i v h2 hc
      simp at hs
      obtain ⟨rfl, rfl⟩ := hs
      exact full_call hK hI ha hc hst.inv hst.glob hst.rep fun v' w' D' β' hr hi hx => hn D' β' w' _ (hst.next hx hi hr o.dst) hx
    · simp at hs
  · simp at hs

theorem St.freeze [Cp] {os : List Nat} {env env' : Env} {a : Act} (hst : St pol Z M D β h w ro a env) (hf : freeze os env h = some (env', h')) : ∃ D2, St pol Z M D2 β h' w ro a env' ∧ Ext D β w D2 β w := by
  obtain ⟨D2, h1, h2, h3, _⟩ := freeze_ok hf hst.inv
  exact ⟨D2, ⟨h1, h2 _ hst.env, hst.glob.sub h3, hst.marks, hst.round⟩, ⟨h3, fun _ _ => rfl, fun _ _ _ h => h, fun _ _ h => h, fun _ _ h => h, fun _ L h => ⟨L, h⟩, Nat.le_refl _⟩⟩

theorem step_sim [Cp] {o : Oper} {env env' : Env} {a : Act} {next : Act → World → Prop} {Q : Exit → Act → World → Prop} (hK : KOk P pol K) (hI : IOk P pol I) (hs : aStep P pol K I f o env h = some (env', h')) (hst : St pol Z M D β h w ro a env)
    (hn : ∀ D' β' w' a', St pol Z M D' β' h' w' ro a' env' → Ext D β w D' β' w' → next a' w') : o.wpIn (FW ro) 0 P a w next Q := by
  unfold aStep at hs
  split at hs
  · split at hs
    · rename_i env2 h2 hf
      obtain ⟨D2, hst2, hx⟩ := hst.freeze hf
      exact step1_sim hK hI hs hst2 fun D' β' w' a' h1 h2 => hn D' β' w' a' h1 (hx.trans h2)
    · simp at hs
  · exact step1_sim hK hI hs hst hn

theorem guard_sim {ops : Array Oper} {env : Env} {a : Act} {gd : Option (Nat × Bool)} {b : Bool} {o : Oper} (ho : o.guard = gd) (hg : guardOk ops.toList env gd = some b) (he : EnvRep D β w a.tmps env) : Region.wanted o (yielded ops a.tmps) = b := by
  unfold Region.wanted
  rw [ho]
  cases gd with
  | none => simp [guardOk] at hg; subst hg; rfl
  | some jw =>
    obtain ⟨j, want⟩ := jw
    simp only [guardOk, Array.getElem?_toList] at hg
    split at hg
    · rename_i o' ho'
      split at hg
      · rename_i d hd
        have hv : env.getD d .dead ≠ .dead → ∃ v, a.tmps[d]? = some v ∧ Rep D β w v (env.getD d .dead) := by
          intro hne
          by_cases hl : d < env.length
          · have h1 : env[d]? = some env[d] := by simp [hl]
            have h2 : a.tmps[d]? = some (a.tmps[d]'(by rw [he.1]; exact hl)) := by simp
            refine ⟨_, h2, ?_⟩
            rw [List.getD_eq_getElem?_getD, h1]
            exact he.2 d _ _ h2 h1
          · rw [List.getD_eq_getElem?_getD, List.getElem?_eq_none (Nat.le_of_not_lt hl)] at hne
            exact absurd rfl hne
        simp only [yielded, ho', Option.bind_some, hd]
        split at hg
        · rename_i b' hb
          obtain ⟨v, h1, h2⟩ := hv (by rw [hb]; simp)
          rw [hb] at h2
          obtain ⟨rfl, _⟩ := h2.toT.sc_eq
          simp at hg
          subst hg
          simp only [h1]
          cases b' <;> cases want <;> rfl
        · rename_i u hu hb
          obtain ⟨v, h1, h2⟩ := hv (by rw [hb]; simp)
          rw [hb] at h2
          obtain ⟨rfl, _⟩ := h2.toT.sc_eq
          simp at hg
          subst hg
          simp only [h1]
          cases v with
          | bool q => exact absurd rfl (hu q)
          | _ => cases want <;> rfl
        · simp at hg
      · simp at hg
    · simp at hg

theorem ops_sim [Cp] {ops : Array Oper} (hK : KOk P pol K) (hI : IOk P pol I) {Q : Exit → Act → World → Prop} : ∀ (rest : List Oper) {Z : Base} {D : Dom} {β : Bet} {h h' : Heap} {w : World} {env env' : Env} {a : Act}, aOps P pol K I f ops.toList rest env h = some (env', h') → St pol Z M D β h w ro a env →
    (∀ D' β' w' a', St pol Z M D' β' h' w' ro a' env' → Ext D β w D' β' w' → Q .normal a' w') → wpListIn (FW ro) 0 P ops Q rest a w := by
  intro rest
  induction rest with
  | nil =>
    intro Z D β h h' w env env' a hs hst hn
    simp [aOps] at hs
    obtain ⟨rfl, rfl⟩ := hs
    exact hn D β w a hst (.refl D β w)
  | cons o rest ih =>
    intro Z D β h h' w env env' a hs hst hn
    simp only [aOps] at hs
    split at hs
    · rename_i b hb
      have hw := guard_sim rfl hb hst.env
      simp only [wpListIn, hw]
      cases b with
      | true =>
        simp only [if_true] at hs ⊢
        split at hs
        · rename_i env1 h1 hstep
          exact step_sim hK hI hstep hst fun D' β' w' a' st1 x1 => ih hs st1 fun D'' β'' w'' a'' st2 x2 => hn D'' β'' w'' a'' st2 (x1.trans x2)
        · simp at hs
      | false =>
        refine ⟨fun _ _ => trivial, ?_⟩
        simp at hs
        exact ih hs (hst.next (.refl D β w) hst.inv undef_rep o.dst) hn
    · simp at hs

end Go.Abs

/- The code of functions along the evaluator: sequences, branches, loops, ranges over functions. -/
namespace Go.Abs
open Go

variable {P : Program} {pol : Pol} {K : Oracle} {I : Inl} {Z : Base} {D D' D2 : Dom} {β β' β2 : Bet} {w w' : World} {h h' : Heap} {ro : Option Nat} {M : Nat} {f : FuncId}

def Xit.toExit : Xit → Exit
  | .normal => .normal
  | .exit id => .exit id
  | .ret => .ret

/-- The regions that draw their order, in any order that may be drawn. -/
def DrawnOk [Cp] (P : Program) (pol : Pol) (K : Oracle) (I : Inl) (ok : List (Nat × Nat) → Array Oper → Bool) : Prop :=
  ∀ {f : FuncId} {id : Nat} {ops : Array Oper} {Z : Base} {M : Nat} {D : Dom} {β : Bet} {h h' : Heap} {w : World} {ro : Option Nat} {env env' : Env} {a : Act} {ts : List (Option (List Nat))} {Q : Exit → Act → World → Prop},
    aOpsD P pol K I f ops.toList ops.toList env h = some (env', h', ts) → critOk (pol.crit f id) ts = true → ok (pol.crit f id) ops = true → St pol Z M D β h w ro a env →
    (∀ D' β' w' a', St pol Z M D' β' h' w' ro a' env' → Ext D β w D' β' w' → Q .normal a' w') → ∀ t, wpOpsIn (FW ro) 0 P ops Q (Region.schedule (P.follows .mixedOrders) ops t) a w

/-- What is asked of a function's code: its regions that draw their order. -/
def codeOk (pol : Pol) (ok : List (Nat × Nat) → Array Oper → Bool) (f : FuncId) : Code → Bool
  | .region id ops true => ok (pol.crit f id) ops
  | .seq a b => codeOk pol ok f a && codeOk pol ok f b
  | .cond _ a b => codeOk pol ok f a && codeOk pol ok f b
  | .rangeFunc _ _ a b => codeOk pol ok f a && codeOk pol ok f b
  | .block _ c => codeOk pol ok f c
  | .loop c => codeOk pol ok f c
  | .scope c => codeOk pol ok f c
  | _ => true

theorem ext_cut {n : Nat} (hx : Ext D β w D' β' w') (hb : ∀ o e y, β o e = some y → o < n) (hs : ∀ b, D' b → D2 b) (h2 : ∀ o e y, o < n → β' o e = some y → β2 o e = some y) : Ext D β w D2 β2 w' :=
  { hx with sub := fun b h => hs b (hx.sub b h), bet := fun o e y hy => h2 o e y (hb o e y hy) (hx.bet o e y hy) }

theorem St.shrink [Cp] {n : Nat} {env env' : Env} {a : Act} (hst : St pol Z M D β h w ro a env) (hs : shrink n env h = some (env', h')) :
    ∃ D2 β2, St pol Z M D2 β2 h' w ro a env' ∧ (∀ b, D b → D2 b) ∧ (∀ o e y, o < n → β o e = some y → β2 o e = some y) := by
  obtain ⟨D2, β2, h1, h2, h3, h4, _⟩ := shrink_ok hs hst.inv
  exact ⟨D2, β2, ⟨h1, h2 _ hst.env, hst.glob.sub h3, hst.marks, hst.round⟩, h3, h4⟩

theorem St.tidy [Cp] {live : Option (List Tmp)} {env : Env} {a : Act} (hst : St pol Z M D β h w ro a env) : St pol Z M D β h w ro a (tidy live env) :=
  { hst with env := tidy_rep hst.env }

theorem wpIn_scope {F : Fence} {n : Nat} {c : Code} {Q : Exit → Act → World → Prop} {a : Act} (h : c.wpIn F n P (Exit.noGoto Q) a w) : (Code.scope c).wpIn F n P Q a w := by
  intro b k cs hro hb hr
  have s0 : step P (lone (b.atR a (.code (.scope c) :: k)) cs w) = .next (lone (b.atR a (.code c :: .inScope c :: k)) cs w) := step_lone_go (by simp [stepG, stepG.exec, Frame.atR])
  have h0 : (lone (b.atR a (.code (.scope c) :: k)) cs w).fenced P F := fenced_calm hb hr rfl
  obtain ⟨e, a₁, w₁, hq, harr⟩ := h b (.inScope c :: k) cs hro hb hr
  cases e with
  | normal =>
    have s1 : step P (lone (b.atR a₁ (.inScope c :: k)) cs w₁) = .next (lone (b.atR a₁ k) cs w₁) := step_lone_go (by simp [stepG, stepG.exec, Frame.atR])
    exact ⟨.normal, a₁, w₁, hq, .head h0 s0 (StepsIn.trans harr (.one (fenced_calm hb hr rfl) s1))⟩
  | exit id =>
    have hx : exitTo id (.inScope c :: k) = exitTo id k := by simp [exitTo]
    exact ⟨.exit id, a₁, w₁, hq, fun k' hk => .head h0 s0 (harr.1 k' (by rw [hx]; exact hk)), fun hr' hk => let ⟨k₁, h1, h2⟩ := harr.2 hr' (by rw [hx]; exact hk); ⟨k₁, h1, .head h0 s0 h2⟩⟩
  | goto l => exact hq.elim
  | ret => exact ⟨_, a₁, w₁, hq, .of_steps (.one h0 s0) harr⟩
  | panic ch => exact ⟨_, a₁, w₁, hq, .of_steps (.one h0 s0) harr⟩
  | outgrown => exact ⟨_, a₁, w₁, hq, .of_steps (.one h0 s0) harr⟩

/-- A loop's record laid. -/
theorem inv_loop [Cp] {L : Loop} {env : Env} {tmps : Array Value} (hi : Inv Z D β h w) (he : EnvRep D β w tmps env) (hc : Cp.ok f L.assign ∧ Cp.ok f L.body) (ht : L.tmps = tmps) (hs : L.state = .ready) (hp : L.pending = none) :
    Inv Z D (bAdd β h.length 0 w.heap.size 0) (h ++ [.loop f env L.params.toList L.assign L.body false none]) (w.alloc (.loop L)) ∧ Ext D β w D (bAdd β h.length 0 w.heap.size 0) (w.alloc (.loop L)) := by
  have hn : ∀ e, β h.length e = none := fun e => hi.fresh _ e (Nat.le_refl _)
  have f1 : Frm (fun o => o = h.length) D β w D β (w.alloc (.loop L)) := frm_alloc hi.g _
  have f2 : Frm (fun o => o = h.length) D β (w.alloc (.loop L)) D (bAdd β h.length 0 w.heap.size 0) (w.alloc (.loop L)) := frm_bAdd rfl (hn 0)
  have g1 : GInv Z D β (w.alloc (.loop L)) := hi.g.alloc _ (by simp)
  have g2 := g1.bAdd (o := h.length) (e := 0) (b := w.heap.size) (k := 0) hi.g.size0 (by simp) (fun o' e' k' hb => by have := (hi.g.blt _ _ _ _ hb).2; omega) (fun ds hx => by rw [heap_alloc_new] at hx; cases hx)
  have f := f1.trans f2
  refine ⟨hi.step g2 f (fun o ho => ?_) (fun o x ho hx => ?_) (by simp) (fun o e y ho _ => by subst ho; simp), f.ext⟩
  · by_cases hl : o < h.length
    · rw [List.getElem?_append_left hl]
    · rw [List.getElem?_eq_none (by simp; omega), List.getElem?_eq_none (by omega)]
  · subst ho
    rw [List.getElem?_append_right (Nat.le_refl _)] at hx
    simp at hx
    subst hx
    intro e b k hb
    rcases bAdd_cases hb with ⟨_, rfl, hy⟩ | ⟨hb, _⟩
    · cases hy
      refine ⟨rfl, fun hd => absurd (hi.g.dlt _ hd) (by omega), L, heap_alloc_new _, hc, rfl, rfl, rfl, hp, by simp [hs], ?_⟩
      rw [ht]; exact he.mono f.ext
    · rw [hn] at hb; cases hb

/-- A loop's record put anew. -/
theorem inv_putLoop [Cp] {l b k : Nat} {L L' : Loop} {x : AObj} (hi : Inv Z D β h w) (hb : β l 0 = some (b, k)) (hD : ¬ D b) (hL : w.heap[b]? = some (.loop L)) (hx : ObjOk D β (w.putObj b (.loop L')) l x) :
    Inv Z D β (h.set l x) (w.putObj b (.loop L')) ∧ Ext D β w D β (w.putObj b (.loop L')) := by
  obtain ⟨f, g⟩ := frm_putObj (S := fun o => o = l) hi.g (y := .loop L') rfl hb hD hL (by simp) (by simp) (by simp) (by simp) (fun L _ => ⟨L', rfl⟩)
  refine ⟨hi.step g f (fun o ho => ?_) (fun o y ho hy => ?_) (by simp) (fun o e y ho hy => by simp; exact hi.dom o e y hy), f.ext⟩
  · rw [List.getElem?_set_ne (fun e => ho e.symm)]
  · subst ho
    rw [List.getElem?_set] at hy
    simp at hy
    obtain ⟨_, rfl⟩ := hy
    exact hx

theorem putLoop_ext [Cp] {l b k : Nat} {L L' : Loop} (hi : Inv Z D β h w) (hb : β l 0 = some (b, k)) (hD : ¬ D b) (hL : w.heap[b]? = some (.loop L)) : Ext D β w D β (w.putObj b (.loop L')) :=
  (frm_putObj (S := fun o => o = l) hi.g (y := .loop L') rfl hb hD hL (by simp) (by simp) (by simp) (by simp) (fun L _ => ⟨L', rfl⟩)).1.ext

theorem code_sim [Cp] {ok : List (Nat × Nat) → Array Oper → Bool} {n : Nat} (hcp : ∀ f c, Cp.ok f c ↔ codeOk pol ok f c = true) (hK : KOk P pol K) (hI : IOk P pol I) (hdraw : DrawnOk P pol K I ok) :
    ∀ (c : Code) {bid : Nat} {Z : Base} {M : Nat} {D : Dom} {β : Bet} {h h' : Heap} {w : World} {ro : Option Nat} {env env' : Env} {a : Act} {x : Xit} {Q : Exit → Act → World → Prop},
      aCode P pol K I n f bid c env h = some (x, env', h') → codeOk pol ok f c = true → St pol Z M D β h w ro a env → M ≤ w.heap.size →
      (∀ D' β' w' a', St pol Z M D' β' h' w' ro a' env' → Ext D β w D' β' w' → Q x.toExit a' w') → c.wpIn (FW ro) 0 P Q a w := by
  intro c
  induction c with
  | skip =>
    intro bid Z M D β h h' w ro env env' a x Q hs _ hst _ hn
    simp [aCode] at hs
    obtain ⟨rfl, rfl, rfl⟩ := hs
    exact wpIn_skip (hn D β w a hst (.refl D β w))
  | label l =>
    intro bid Z M D β h h' w ro env env' a x Q hs _ hst _ hn
    simp [aCode] at hs
    obtain ⟨rfl, rfl, rfl⟩ := hs
    exact wpIn_label (hn D β w a hst (.refl D β w))
  | exit id =>
    intro bid Z M D β h h' w ro env env' a x Q hs _ hst _ hn
    simp [aCode] at hs
    obtain ⟨rfl, rfl, rfl⟩ := hs
    exact wpIn_exit (hn D β w a hst (.refl D β w))
  | ret =>
    intro bid Z M D β h h' w ro env env' a x Q hs _ hst _ hn
    simp [aCode] at hs
    obtain ⟨rfl, rfl, rfl⟩ := hs
    exact wpIn_ret (hn D β w a hst (.refl D β w))
  | goto l => intro bid Z M D β h h' w ro env env' a x Q hs; simp [aCode] at hs
  | refuse why => intro bid Z M D β h h' w ro env env' a x Q hs; simp [aCode] at hs
  | region id ops draw =>
    intro bid Z M D β h h' w ro env env' a x Q hs hok hst _ hn
    cases draw with
    | false =>
      simp only [aCode] at hs
      split at hs
      · rename_i env1 h1 ho
        simp at hs
        obtain ⟨rfl, rfl, rfl⟩ := hs
        exact wpIn_region_list (ops_sim hK hI ops.toList ho hst hn)
      · simp at hs
    | true =>
      simp only [aCode] at hs
      split at hs
      · rename_i env1 h1 ts ho
        split at hs
        · rename_i hcr
          simp at hs
          obtain ⟨rfl, rfl, rfl⟩ := hs
          refine wpIn_region_draw fun t => ?_
          obtain ⟨fr, g⟩ := frm_drew (S := fun _ => False) hst.inv.g (w.drawn + 1)
          have hst' : St pol Z M D β h { w with drawn := w.drawn + 1 } ro a env :=
            ⟨hst.inv.step g fr (fun _ _ => rfl) (fun _ _ h => h.elim) (Nat.le_refl _) (fun _ _ _ h => h.elim), hst.env.mono fr.ext, hst.glob.mono fr.ext, hst.marks.mono fr.ext, fun l hl => let ⟨L, hL⟩ := hst.round l hl; fr.ext.loops l L hL⟩
          exact hdraw ho hcr (by simpa [codeOk] using hok) hst' (fun D' β' w' a' st hx => hn D' β' w' a' st (fr.ext.trans hx)) t
        · simp at hs
      · simp at hs
  | seq p q ihp ihq =>
    intro bid Z M D β h h' w ro env env' a x Q hs hok hst hM hn
    simp [codeOk] at hok
    simp only [aCode] at hs
    split at hs
    · rename_i env1 h1 h1s
      refine wpIn_seq (ihp h1s hok.1 hst hM fun D' β' w' a' st1 x1 => ?_)
      exact ihq hs hok.2 st1 (Nat.le_trans hM x1.size) fun D'' β'' w'' a'' st2 x2 => hn D'' β'' w'' a'' st2 (x1.trans x2)
    · rename_i hr
      refine wpIn_seq (ihp hs hok.1 hst hM fun D' β' w' a' st1 x1 => ?_)
      have hq := hn D' β' w' a' st1 x1
      cases x with
      | normal => exact absurd hs (hr _ _)
      | exit id => exact hq
      | ret => exact hq
  | cond c p q ihp ihq =>
    intro bid Z M D β h h' w ro env env' a x Q hs hok hst hM hn
    simp [codeOk] at hok
    simp only [aCode] at hs
    split at hs
    · rename_i t ht
      have hr := hst.rep c
      rw [ht] at hr
      refine wpIn_cond hr.toT.sc_eq.1 ?_
      cases t with
      | true => simp at hs ⊢; exact ihp hs hok.1 hst hM hn
      | false => simp at hs ⊢; exact ihq hs hok.2 hst hM hn
    · simp at hs
  | block id c ih =>
    intro bid Z M D β h h' w ro env env' a x Q hs hok hst hM hn
    simp only [codeOk] at hok
    simp only [aCode] at hs
    split at hs
    · rename_i j env1 h1 h1s
      refine wpIn_block (ih h1s hok hst hM fun D' β' w' a' st1 x1 => ?_)
      simp only [Xit.toExit, Exit.inBlock]
      split at hs
      · rename_i hj
        simp at hs
        obtain ⟨rfl, rfl, rfl⟩ := hs
        rw [if_pos hj]
        exact hn D' β' w' a' st1 x1
      · rename_i hj
        simp at hs
        obtain ⟨rfl, rfl, rfl⟩ := hs
        rw [if_neg hj]
        exact hn D' β' w' a' st1 x1
    · rename_i hr
      refine wpIn_block (ih hs hok hst hM fun D' β' w' a' st1 x1 => ?_)
      have hq := hn D' β' w' a' st1 x1
      cases x with
      | normal => exact hq
      | exit j => exact absurd hs (hr _ _ _)
      | ret => exact hq
  | scope c ih =>
    intro bid Z M D β h h' w ro env env' a x Q hs hok hst hM hn
    simp only [codeOk] at hok
    simp only [aCode] at hs
    refine wpIn_scope (ih hs hok hst hM fun D' β' w' a' st1 x1 => ?_)
    have hq := hn D' β' w' a' st1 x1
    cases x <;> exact hq
  | loop c ih =>
    intro bid Z M D β h h' w ro env env' a x Q hs hok hst hM hn
    simp only [codeOk] at hok
    simp only [aCode] at hs
    refine wpIn_loop_rounds n ?_
    have key : ∀ (m : Nat) {D1 : Dom} {β1 : Bet} {h1 : Heap} {w1 : World} {env1 : Env} {a1 : Act}, iter h.length (pol.live f bid) (aCode P pol K I n f bid c) m env1 h1 = some (x, env', h') → St pol Z M D1 β1 h1 w1 ro a1 env1 → Ext D β w D1 β1 w1 →
        Code.roundsIn (FW ro) 0 P c Q m a1 w1 := by
      intro m
      induction m with
      | zero => intro D1 β1 h1 w1 env1 a1 hs; simp [iter] at hs
      | succ m ihm =>
        intro D1 β1 h1 w1 env1 a1 hs hst1 hx1
        simp only [iter] at hs
        rw [roundsIn_succ]
        split at hs
        · rename_i env2 h2 hb
          refine ih hb hok hst1.tidy (Nat.le_trans hM hx1.size) fun D' β' w' a' st2 x2 => ?_
          split at hs
          · rename_i env3 h3 hsh
            obtain ⟨D2, β2, st3, s1, s2⟩ := st2.shrink hsh
            exact ihm hs st3 (ext_cut (hx1.trans x2) hst.inv.dom s1 s2)
          · simp at hs
        · rename_i hr
          refine ih hs hok hst1.tidy (Nat.le_trans hM hx1.size) fun D' β' w' a' st2 x2 => ?_
          have hq := hn D' β' w' a' st2 (hx1.trans x2)
          cases x with
          | normal => exact absurd hs (hr _ _)
          | exit id => exact hq
          | ret => exact hq
    exact key n hs hst (.refl D β w)
  | rangeFunc g ps assign body _ _ =>
    intro bid Z M D β h h' w ro env env' a x Q hs hok hst hM hn
    simp [codeOk] at hok
    simp only [aCode] at hs
    split at hs
    · rename_i gf args hcal
      split at hs
      · rename_i v2 h2 hcall
        obtain ⟨hcl, hsim⟩ := hI.fn gf args _ v2 h2 hcall
        refine wpIn_rangeFunc fun fn _ => ?_
        -- where the record lies
        have hent : ∃ (w0 : World) (mark : List Deferred) (L : Loop), (Instr.enterLoop fn a.tmps ps assign body (FW ro).round).run P w = .ok (w0.heap.size, mark) (w0.alloc (.loop L)) ∧ Inv Z D β h w0 ∧ Ext D β w D β w0 ∧
            L.tmps = a.tmps ∧ L.state = .ready ∧ L.pending = none ∧ L.params = ps ∧ L.assign = assign ∧ L.body = body ∧
            (∀ D' β' w', Ext D β w0 D' β' w' → Marks M w' (mark ++ a.defers)) := by
          cases hro : ro with
          | none =>
            have f0 : Frm (fun _ => False) D β w D β (w.alloc (.deferred (some []))) := frm_alloc hst.inv.g _
            have i0 : Inv Z D β h (w.alloc (.deferred (some []))) := hst.inv.step (hst.inv.g.alloc _ (by simp)) f0 (fun _ _ => rfl) (fun _ _ h => h.elim) (Nat.le_refl _) (fun _ _ _ h => h.elim)
            refine ⟨w.alloc (.deferred (some [])), [{ target := .collected w.heap.size, args := #[] }], { state := .ready, pending := none, fn, tmps := a.tmps, params := ps, assign, body, defers := w.heap.size }, ?_, i0, f0.ext, rfl, rfl, rfl, rfl, rfl, rfl, ?_⟩
            · rw [World.size_alloc]; exact run_enterLoop_outer _ _ _ _ _
            · intro D' β' w' hx
              obtain ⟨rs, r1, r2, r3⟩ := (hst.marks.mono f0.ext).mono hx
              refine ⟨w.heap.size :: rs, by simp [r1], List.nodup_cons.2 ⟨fun hm => ?_, r2⟩, fun r hr => ?_⟩
              · obtain ⟨rs', q1, _, q3⟩ := hst.marks
                have he : rs = rs' := by
                  have e := r1.symm.trans q1
                  exact (List.map_inj_right (fun x y h => by simpa using h)).1 e
                subst he
                have := lt_of_heap (q3 _ hm).2
                omega
              · rcases List.mem_cons.1 hr with rfl | hr
                · exact ⟨hM, hx.defs _ _ (heap_alloc_new _)⟩
                · exact r3 r hr
          | some l0 =>
            obtain ⟨L0, hL0⟩ := hst.round l0 hro
            refine ⟨w, [], { state := .ready, pending := none, fn, tmps := a.tmps, params := ps, assign, body, defers := L0.defers }, run_enterLoop_inner hL0 _ _ _ _ _, hst.inv, .refl D β w, rfl, rfl, rfl, rfl, rfl, rfl, fun D' β' w' hx => hst.marks.mono hx⟩
        obtain ⟨w0, mark, L, hrun, i0, x0, t1, t2, t3, t4, t5, t6, hmk⟩ := hent
        obtain ⟨i1, x1⟩ := inv_loop (f := f) i0 (tidy_rep (live := pol.live f bid) (hst.env.mono x0)) ⟨by rw [t5]; exact (hcp _ _).2 hok.1, by rw [t6]; exact (hcp _ _).2 hok.2⟩ t1 t2 t3
        rw [t4, t5, t6] at i1
        have x01 := x0.trans x1
        have hrl : RepL D (bAdd β h.length 0 w0.heap.size 0) (w0.alloc (.loop L)) [.func (.yield w0.heap.size) #[] #[]] [.yl h.length] := by
          refine ⟨rfl, fun i v x hv hx => ?_⟩
          cases i with
          | zero => simp at hv hx; subst hv; subst hx; exact .yl _ _ 0 (bAdd_same _ _ _ _ _)
          | succ i => simp at hv
        obtain ⟨d, vs', hd1, hrl', hinv⟩ := callee_run (P := P) hcal ((hst.rep g).mono x01) hrl
        have hres : (resolve a.eval (rangeCall g w0.heap.size) 0).run P (w0.alloc (.loop L)) = .ok d (w0.alloc (.loop L)) := by
          have e : (#[Operand.const (.func (.yield w0.heap.size) #[] #[])].map a.eval) = [Value.func (.yield w0.heap.size) #[] #[]].toArray := by simp [Act.eval]
          simp only [resolve, rangeCall]
          rw [e]
          exact hd1 _
        refine ⟨w0.heap.size, mark, w0.alloc (.loop L), d, w0.alloc (.loop L), gf, vs'.toArray, w0.alloc (.loop L), hrun, hres, fun _ _ => trivial, (hinv _).trans (run_callFunc hcl _ _), fun hd => by simp [FW, Fence.wide] at hd, ?_⟩
        refine callsIn_FW (CallsIn.mono (hsim Z D _ _ vs' i1 (hst.glob.mono x01) hrl') fun e w3 hp => ?_)
        obtain ⟨v', rfl, D', β', i3, g3, x3, _⟩ := hp
        split at hs <;> try (simp at hs)
        all_goals
          rename_i env5 h5 hlo hsh
          obtain ⟨rfl, rfl, rfl⟩ := hs
        all_goals
          unfold loopOf at hlo
          split at hlo <;> try (simp at hlo)
        all_goals
          subst hlo
          rename_i f' env'' ps' as' bd' hget
          have hb3 : β' h.length 0 = some (w0.heap.size, 0) := x3.bet _ _ _ (bAdd_same _ _ _ _ _)
          obtain ⟨_, hD3, L3, hL3, _, _, _, _, hpend, hstate, _⟩ := i3.obj _ _ hget 0 _ _ hb3
          have hend := run_endLoop (P := P) hL3 (by rw [hstate]; simp)
          obtain ⟨i4, x4⟩ := inv_putLoop (x := .gone) (L' := { L3 with state := .exhausted }) i3 hb3 hD3 hL3 trivial
          have xx := (x01.trans x3).trans x4
          have xm := (x1.trans x3).trans x4
          have st4 : St pol Z M D' β' (h2.set h.length .gone) (w3.putObj w0.heap.size (.loop { L3 with state := .exhausted })) ro { a with defers := mark ++ a.defers } env :=
            ⟨i4, hst.env.mono xx, g3.mono x4, hmk _ _ _ xm, fun l hl => let ⟨L, hL⟩ := hst.round l hl; xx.loops l L hL⟩
          obtain ⟨D5, β5, st5, s1, s2⟩ := st4.shrink hsh
          have hq := hn D5 β5 _ _ st5 (ext_cut xx hst.inv.dom s1 s2)
          have hend := hend.trans (congrArg (fun p => Result.ok p _) hpend)
        · exact ⟨none, _, hend, hq⟩
        · exact ⟨some .ret, _, hend, wpIn_ret hq⟩
        · exact ⟨some (.exit _), _, hend, wpIn_exit hq⟩
      · simp at hs
    · simp at hs

end Go.Abs

/- Functions: a body run in the caller's heap, a round of a loop over a function, a call with trees. -/
namespace Go.Abs
open Go

variable {P : Program} {pol : Pol} {K : Oracle} {I : Inl} {Z : Base} {D D' D2 : Dom} {β β' β2 : Bet} {w w' w0 : World} {h h' : Heap} {ro : Option Nat} {M : Nat} {f : FuncId}

theorem aLoad_ptr {t : TypeId} {a x : AV} {va : Value} (hl : aLoad P t a h = some x) (ha : Rep D β w va a) : ∃ p, va = .pointer (some p) := by
  unfold aLoad at hl
  split at hl
  · have ht := ha.toT
    cases ht with
    | ip b off cs hD c hc hr => exact ⟨_, rfl⟩
  · cases ha with
    | ref o e i off b k hb => exact ⟨_, rfl⟩
  · simp at hl

def resultVar (tmps : Array Value) : ResultVar → Sem Value
  | .tmp t => pure (tmps.getD t undef)
  | .cell a t => do loadVar t (← asAddr (tmps.getD a undef))

theorem resultVar_run [Cp] {env : Env} {tmps : Array Value} {r : ResultVar} {x : AV} (hs : aResult P env h r = some x) (he : EnvRep D β w tmps env) (hi : Inv Z D β h w) : ∃ v, (resultVar tmps r).run P w = .ok v w ∧ Rep D β w v x := by
  have hev : ∀ t, Rep D β w (tmps.getD t undef) (env.getD t .dead) := fun t => by
    have := eval_rep (pol := ⟨fun _ _ => false, fun _ _ => false, fun _ _ _ => false, fun _ _ => false, fun _ _ => none, fun _ _ => [], fun _ => none, fun _ => false, fun _ _ => none⟩) (a := { tmps, defers := [] }) he ⟨fun g x hx => by simp at hx, fun g ts hx => by simp at hx⟩ (.tmp t)
    exact this
  cases r with
  | tmp t => simp [aResult] at hs; subst hs; exact ⟨_, rfl, hev t⟩
  | cell a t =>
    simp only [aResult] at hs
    obtain ⟨v, h1, h2⟩ := aLoad_run (w := w) hs (hev a) (fun o y _ hy => hi.obj o y hy)
    obtain ⟨p, hp⟩ := aLoad_ptr hs (hev a)
    refine ⟨v, ?_, h2⟩
    simp only [resultVar]
    rw [hp] at h1 ⊢
    simpa [Instr.loadAt, Instr.sureAddr, asAddr, Sem.run, pure, Result.andThen] using h1

theorem results_list [Cp] {env : Env} {tmps : Array Value} (he : EnvRep D β w tmps env) (hi : Inv Z D β h w) : ∀ (rs : List ResultVar) (vs : List AV), aResults P env h rs = some vs → ∃ l, (rs.mapM (resultVar tmps)).run P w = .ok l w ∧ RepL D β w l vs := by
  intro rs
  induction rs with
  | nil => intro vs hs; simp [aResults] at hs; subst hs; exact ⟨[], rfl, rfl, by simp⟩
  | cons r rs ih =>
    intro vs hs
    simp only [aResults] at hs
    split at hs
    · rename_i x xs hx hxs
      simp at hs; subst hs
      obtain ⟨v, h1, h2⟩ := resultVar_run hx he hi
      obtain ⟨l, h3, h4⟩ := ih xs hxs
      refine ⟨v :: l, ?_, by simp [h4.1], fun i u y hu hy => ?_⟩
      · rw [List.mapM_cons]
        simp only [Sem.run_bind, h1, Result.andThen, h3, Sem.run_pure]
      · cases i with
        | zero => simp at hu hy; subst hu; subst hy; exact h2
        | succ i => exact h4.2 i u y (by simpa using hu) (by simpa using hy)
    · simp at hs

theorem results_run [Cp] {env : Env} {tmps : Array Value} {fn : Func} {vs : List AV} (hs : aResults P env h fn.results.toList = some vs) (he : EnvRep D β w tmps env) (hi : Inv Z D β h w) : ∃ v, (results fn tmps).run P w = .ok v w ∧ Rep D β w v (one vs) := by
  obtain ⟨l, h1, h2⟩ := results_list he hi fn.results.toList vs hs
  have hm : (fn.results.mapM (resultVar tmps)).run P w = .ok l.toArray w := by
    rw [Array.mapM_eq_mapM_toList]
    rw [map_eq_pure_bind]
    simp only [Sem.run_bind, h1, Result.andThen, Sem.run_pure]
  have e : results fn tmps = (do let vs ← fn.results.mapM (resultVar tmps); pure (if h : vs.size = 1 then vs[0] else .tuple vs)) := by
    unfold results resultVar
    congr 1
  refine ⟨if h : l.toArray.size = 1 then l.toArray[0] else .tuple l.toArray, ?_, ?_⟩
  · rw [e]
    simp only [Sem.run_bind, hm, Result.andThen, Sem.run_pure]
  · have tup : vs.length ≠ 1 → one vs = mkTup vs := by
      intro hne
      unfold one
      split
      · simp at hne
      · rfl
    split
    · rename_i hl
      have hl : l.length = 1 := by simpa using hl
      match vs, h2.1.symm.trans hl with
      | [x], _ => exact h2.2 0 _ x (by simp) rfl
    · rename_i hl
      have hl : l.length ≠ 1 := by simpa using hl
      rw [tup (by rw [← h2.1]; exact hl)]
      exact Rep.mkTup (by simpa using h2.1) (fun i v t hv ht => h2.2 i v t (by simpa using hv) ht)

/-- A mark's block is shut. -/
theorem take_inv [Cp] {r : Nat} {ds : Option (List Deferred)} (hi : Inv Z D β h w) (hr : w.heap[r]? = some (.deferred ds)) (hN : Z.N ≤ r) (hx : Ext D2 β2 w0 D β w) (hw : w0.heap.size ≤ r) :
    Inv Z D β h (w.putObj r (.deferred none)) ∧ Ext D2 β2 w0 D β (w.putObj r (.deferred none)) ∧ (∀ x v, Rep D β w v x → Rep D β (w.putObj r (.deferred none)) v x) := by
  obtain ⟨hnD, hnβ⟩ := hi.g.nd r ds hr hN
  have hlt := lt_of_heap hr
  have hoth : ∀ b, b ≠ r → (w.putObj r (.deferred none)).heap[b]? = w.heap[b]? := fun b hb => World.putObj_heap_other hb
  have hsame : (w.putObj r (.deferred none)).heap[r]? = some (.deferred none) := World.putObj_heap_same hlt
  have hrow : ∀ b n, rowSize w b = some n → rowSize (w.putObj r (.deferred none)) b = some n := by
    intro b n hn
    by_cases hb : b = r
    · subst hb; simp [rowSize, hr] at hn
    · simp only [rowSize, hoth b hb]; exact hn
  have hD : ∀ b, D b → (w.putObj r (.deferred none)).heap[b]? = w.heap[b]? := fun b hb => hoth b (fun e => hnD (e ▸ hb))
  have hβb : ∀ o e b k, β o e = some (b, k) → (w.putObj r (.deferred none)).heap[b]? = w.heap[b]? := fun o e b k hb => hoth b (fun e' => hnβ o e k (e' ▸ hb))
  have rep : ∀ x v, Rep D β w v x → Rep D β (w.putObj r (.deferred none)) v x := by
    intro x v hv
    induction hv with
    | t v x h => exact .t v x (h.mono (fun _ h => h) hD)
    | agg cs ts hl _ ih => exact .agg cs ts hl ih
    | tup cs ts hl _ ih => exact .tup cs ts hl ih
    | fn f a b x y ha hb _ _ ih1 ih2 => exact .fn f a b x y ha hb ih1 ih2
    | ref o e i off b k hb => exact .ref o e i off b k hb
    | ms0 a o e i k clip => exact .ms0 a o e i k clip
    | ms o e i len k clip b cap n hb hle hcap hclip hn hsz => exact .ms o e i len k clip b cap n hb hle hcap hclip (hrow _ _ hn) hsz
    | mp o b k hb => exact .mp o b k hb
    | yl o b k hb => exact .yl o b k hb
    | dead v => exact .dead v
  refine ⟨⟨⟨by simpa using hi.g.size0, fun b hb => (hoth b (by omega)).trans (hi.g.old b hb), hi.g.os, hi.g.out, fun b hb => by simpa using hi.g.dlt b hb, hi.g.dn, fun o e b k hb => by simpa using hi.g.blt o e b k hb, hi.g.inj, fun b ds' hb hN' => ?_⟩, fun o x hx => ?_, hi.dom⟩, ?_, rep⟩
  · by_cases hb' : b = r
    · subst hb'; exact ⟨hnD, hnβ⟩
    · rw [hoth b hb'] at hb; exact hi.g.nd b ds' hb hN'
  · have := hi.obj o x hx
    cases x with
    | gone => trivial
    | row k es mr =>
      refine ⟨this.1, fun e b k' hb => ?_⟩
      obtain ⟨q1, q2, q3, q4⟩ := this.2 e b k' hb
      refine ⟨q1, q2, q3, fun hm => ?_⟩
      obtain ⟨c, ty, r1, r2, r3⟩ := q4 hm
      refine ⟨c, ty, (hβb o e b k' hb).trans r1, r2, fun i x j t hi' hx' ht => ?_⟩
      obtain ⟨v, s1, s2, s3⟩ := r3 i x j t hi' hx' ht
      exact ⟨v, s1, s2, rep _ _ s3⟩
    | map es =>
      intro e b k hb
      obtain ⟨q0, q1, mes, clock, q2, q3, q4⟩ := this e b k hb
      exact ⟨q0, q1, mes, clock, (hβb o e b k hb).trans q2, q3, fun i m kv hm hk => ⟨(q4 i m kv hm hk).1, rep _ _ (q4 i m kv hm hk).2⟩⟩
    | loop f env params assign body busy pending =>
      intro e b k hb
      obtain ⟨q0, q1, L, q2, q3, q4, q5, q6, q7, q8, q9⟩ := this e b k hb
      exact ⟨q0, q1, L, (hβb o e b k hb).trans q2, q3, q4, q5, q6, q7, q8, q9.1, fun i v x hv hx => rep _ _ (q9.2 i v x hv hx)⟩
  · refine ⟨hx.sub, fun b hb => (hD b (hx.sub b hb)).trans (hx.same b hb), hx.bet, fun b n hn => hrow b n (hx.rows b n hn), fun b ds' hb => (hoth b (fun e => ?_)).trans (hx.defs b ds' hb), fun b L hb => ?_, by simpa using hx.size⟩
    · have := lt_of_heap hb; omega
    · obtain ⟨L', hL'⟩ := hx.loops b L hb
      refine ⟨L', (hoth b (fun e => ?_)).trans hL'⟩
      subst e; rw [hr] at hL'; cases hL'

/-- The marks are taken, the results read. -/
theorem leaves_sim [Cp] {fn : Func} {env : Env} {vs : List AV} {tmps : Array Value} {R : Ending → World → Prop} (hvs : aResults P env h fn.results.toList = some vs) (hZ : Z.N ≤ w0.heap.size)
    (hR : ∀ v w', Inv Z D β h w' → GlobOk pol D w' → Ext D2 β2 w0 D β w' → Rep D β w' v (one vs) → R (.returned v) w') :
    ∀ (ds : List Deferred) (w : World), Marks w0.heap.size w ds → Inv Z D β h w → GlobOk pol D w → Ext D2 β2 w0 D β w → EnvRep D β w tmps env → LeavesInM (FW none) 0 P fn tmps R ds .returning w := by
  intro ds
  induction ds with
  | nil =>
    intro w _ hi hg hx he
    obtain ⟨v, h1, h2⟩ := results_run hvs he hi
    exact ⟨v, h1, hR v w hi hg hx h2⟩
  | cons d ds ih =>
    intro w hm hi hg hx he
    obtain ⟨rs, e1, e2, e3⟩ := hm
    cases rs with
    | nil => simp at e1
    | cons r rs =>
      simp at e1
      obtain ⟨rfl, rfl⟩ := e1
      obtain ⟨hlo, hr⟩ := e3 r (by simp)
      have hN : Z.N ≤ r := Nat.le_trans hZ hlo
      obtain ⟨i1, x1, r1⟩ := take_inv hi hr hN hx hlo
      refine ⟨by simp, .inl ⟨r, _, rfl, run_takeDeferred hr, ih _ ?_ i1 ⟨fun g x hgx => ?_, fun g ts hgx => ?_⟩ x1 ⟨he.1, fun i v x hv hxx => r1 _ _ (he.2 i v x hv hxx)⟩⟩⟩
      · have hnd := List.nodup_cons.1 e2
        refine ⟨rs, rfl, hnd.2, fun q hq => ⟨(e3 q (by simp [hq])).1, (World.putObj_heap_other (k := q) (r := r) (fun e => hnd.1 (by subst e; exact hq))).trans (e3 q (by simp [hq])).2⟩⟩
      · have := r1 (.t x) _ (.t _ _ (hg.rep g x hgx))
        exact this.toT
      · obtain ⟨hd, cs, ty, fr, hc, hn⟩ := hg.row g ts hgx
        have hne : g ≠ r := fun e => (hi.g.nd r _ hr hN).1 (e ▸ hd)
        exact ⟨hd, cs, ty, fr, (World.putObj_heap_other hne).trans hc, hn⟩

/-- What is asked of a program: its functions' names, and the regions that draw their order. -/
structure ProgOk (P : Program) (pol : Pol) (ok : List (Nat × Nat) → Array Oper → Bool) : Prop where
  fns : ∀ f fn c, P.funcs[f]? = some fn → fn.body = some c → codeOk pol ok f c = true ∧ fn.name ≠ "runtime.NumGoroutine"

theorem env0_rep {vs : List Value} {args : List AV} (hr : RepL D β w vs args) (k : Nat) : EnvRep D β w (vs.toArray ++ Array.replicate (k - vs.toArray.size) undef) (args ++ List.replicate (k - args.length) .dead) := by
  refine ⟨by simp [hr.1], fun i v x hv hx => ?_⟩
  by_cases hi : i < args.length
  · rw [List.getElem?_append_left hi] at hx
    rw [Array.getElem?_append_left (by simp [hr.1, hi])] at hv
    exact hr.2 i v x (by simpa using hv) hx
  · rw [List.getElem?_append_right (Nat.le_of_not_lt hi), List.getElem?_replicate] at hx
    split at hx
    · cases hx; exact .dead v
    · cases hx

theorem body_sim [Cp] {ok : List (Nat × Nat) → Array Oper → Bool} {n : Nat} (hcp : ∀ f c, Cp.ok f c ↔ codeOk pol ok f c = true) (hP : ProgOk P pol ok) (hK : KOk P pol K) (hI : IOk P pol I) (hdraw : DrawnOk P pol K I ok)
    {args : List AV} {v : AV} (hb : aBody P pol K I n f args h = some (v, h')) : Callable P f ∧ ∀ (Z : Base) (D : Dom) (β : Bet) (w : World) (vs : List Value), Inv Z D β h w → GlobOk pol D w → RepL D β w vs args →
      CallsIn Fence.wide 0 P f vs.toArray w (InlPost pol Z D β w v h') := by
  unfold aBody at hb
  split at hb
  · rename_i fn hf
    split at hb
    · rename_i c hc
      obtain ⟨hcok, hname⟩ := hP.fns f fn c hf hc
      refine ⟨⟨fn, c, hf, hc, hname⟩, fun Z D β w vs hi hg hr => ?_⟩
      have fin : ∀ x env1 h1 rs, aCode P pol K I n f 0 c (args ++ List.replicate (fn.ntmps - args.length) .dead) h = some (x, env1, h1) → (x = .normal ∨ x = .ret) → aResults P env1 h1 fn.results.toList = some rs → v = one rs → h' = h1 →
          CallsIn Fence.wide 0 P f vs.toArray w (InlPost pol Z D β w v h') := by
        intro x env1 h1 rs hcode hx hrs hv hh
        subst hv; subst hh
        refine callsIn_of_wp_marks (F := FW none) hf hc trivial ?_ rfl
        refine code_sim hcp hK hI hdraw c (ro := none) (M := w.heap.size) hcode hcok ⟨hi, env0_rep hr fn.ntmps, hg, .nil, fun l hl => by simp at hl⟩ (Nat.le_refl _) fun D' β' w' a' st hxx => ?_
        have := leaves_sim (fn := fn) (tmps := a'.tmps) (R := InlPost pol Z D β w (one rs) h') (w0 := w) (D2 := D) (β2 := β) hrs hi.g.size0 (fun v w'' i2 g2 x2 r2 => ⟨v, rfl, D', β', i2, g2, x2, r2⟩) a'.defers w' st.marks st.inv st.glob hxx st.env
        rcases hx with rfl | rfl
        · exact this
        · exact this
      split at hb
      · rename_i env1 h1 hcode
        split at hb
        · rename_i rs hrs
          simp at hb
          exact fin _ env1 h1 rs hcode (.inl rfl) hrs hb.1.symm hb.2.symm
        · simp at hb
      · rename_i env1 h1 hcode
        split at hb
        · rename_i rs hrs
          simp at hb
          exact fin _ env1 h1 rs hcode (.inr rfl) hrs hb.1.symm hb.2.symm
        · simp at hb
      · simp at hb
    · simp at hb
  · simp at hb

theorem setAll_rep {env : Env} {tmps : Array Value} (he : EnvRep D β w tmps env) : ∀ (ps : List Tmp) (vs : List Value) (args : List AV), RepL D β w vs args →
    EnvRep D β w ((ps.zip vs).foldl (fun tmps (x : Tmp × Value) => tmps.setIfInBounds x.1 x.2) tmps) (setAll env (ps.zip args)) := by
  intro ps
  induction ps generalizing env tmps with
  | nil => intro vs args _; exact he
  | cons p ps ih =>
    intro vs args hr
    cases vs with
    | nil =>
      cases args with
      | nil => exact he
      | cons x xs => have := hr.1; simp at this
    | cons v vs =>
      cases args with
      | nil => have := hr.1; simp at this
      | cons x xs =>
        simp only [List.zip_cons_cons, List.foldl_cons, setAll]
        exact ih (he.set p (hr.2 0 v x rfl rfl)) vs xs ⟨by have := hr.1; simpa using this, fun i u y hu hy => hr.2 (i + 1) u y (by simpa using hu) (by simpa using hy)⟩

theorem inl_sim [Cp] {ok : List (Nat × Nat) → Array Oper → Bool} {n : Nat} (hcp : ∀ f c, Cp.ok f c ↔ codeOk pol ok f c = true) (hP : ProgOk P pol ok) (hK : KOk P pol K) (hdraw : ∀ I, IOk P pol I → DrawnOk P pol K I ok) : ∀ d, IOk P pol (inl P pol K n d) := by
  intro d
  induction d with
  | zero => exact ⟨fun f args h v h' hs => by simp [inl] at hs, fun o args h v h' hs => by simp [inl] at hs⟩
  | succ d ih =>
    refine ⟨fun f args h v h' hs => ?_, fun l args h v h' hs Z D β w vs b k hi hg hr hb => ?_⟩
    · simp only [inl] at hs
      exact body_sim hcp hP hK ih (hdraw _ ih) hs
    · simp only [inl] at hs
      split at hs
      · rename_i f env params assign body hget
        split at hs
        · simp at hs
        · rename_i hlen
          have hlen : args.length = params.length := by simpa using hlen
          obtain ⟨_, hD, L, hL, hcode, hpar, has, hbd, hpend, hstate, henv⟩ := hi.obj _ _ hget 0 b k hb
          have hsz : vs.toArray.size = L.params.size := by
            have e1 : L.params.size = params.length := by rw [← hpar]; simp
            rw [e1, ← hlen]; simp [hr.1]
          have hy := run_yield (P := P) (args := vs.toArray) hL hsz
          refine ⟨_, _, _, _, hy, ?_⟩
          split at hs
          · rename_i env1 h1 hassign
            split at hs
            · rename_i h1b hbusy
              refine roundIn_of_wpIn trivial ?_
              have henv' : EnvRep D β w ((L.params.zip vs.toArray).foldl (fun tmps x => tmps.setIfInBounds x.1 x.2) L.tmps) (setAll env (params.zip args)) := by
                have := setAll_rep henv params vs args hr
                rw [← Array.foldl_toList, Array.toList_zip, hpar]
                exact this
              rw [has, hbd]
              have st0 : St pol Z w.heap.size D β h w (some b) { tmps := (L.params.zip vs.toArray).foldl (fun tmps x => tmps.setIfInBounds x.1 x.2) L.tmps, defers := [] } (setAll env (params.zip args)) :=
                ⟨hi, henv', hg, .nil, fun l' hl' => by cases hl'; exact ⟨L, hL⟩⟩
              refine code_sim hcp hK ih (hdraw _ ih) assign (ro := some b) (M := w.heap.size) (n := n) (f := f) hassign ((hcp _ _).1 hcode.1) st0 (Nat.le_refl _) fun D1 β1 w1 a1 st1 x1 => ?_
              -- the round begins
              unfold busyOf at hbusy
              split at hbusy
              · rename_i f1 env1' ps1 as1 bd1 hget1
                simp at hbusy
                subst hbusy
                have hb1 := x1.bet _ _ _ hb
                obtain ⟨_, hD1, L1, hL1, hc1, hp1, ha1, hbd1, hpe1, hst1, he1⟩ := st1.inv.obj _ _ hget1 0 b k hb1
                refine ⟨_, run_beginRound hL1 (by simpa using hst1), ?_⟩
                obtain ⟨i2, x2⟩ := inv_putLoop (x := .loop f1 env1' ps1 as1 bd1 true none) (L' := { L1 with state := .busy }) st1.inv hb1 hD1 hL1 (by
                  intro e b' k' hb'
                  have hx' := putLoop_ext (L' := { L1 with state := .busy }) st1.inv hb1 hD1 hL1
                  obtain ⟨q0, _⟩ := st1.inv.obj _ _ hget1 e b' k' hb'
                  subst q0
                  rw [hb1] at hb'
                  cases hb'
                  exact ⟨rfl, hD1, _, World.putObj_heap_same (lt_of_heap hL1), hc1, hp1, ha1, hbd1, hpe1, rfl, he1.mono hx'⟩)
                have st2 : St pol Z w.heap.size D1 β1 (h1.set l (.loop f1 env1' ps1 as1 bd1 true none)) (w1.putObj b (.loop { L1 with state := .busy })) (some b) a1 env1 :=
                  ⟨i2, st1.env.mono x2, st1.glob.mono x2, st1.marks.mono x2, fun l' hl' => by cases hl'; exact x2.loops b L1 hL1⟩
                have fin : ∀ (x : Xit) (jump : Option Code) env3 h3, aCode P pol K (inl P pol K n d) n f 0 body env1 (h1.set l (.loop f1 env1' ps1 as1 bd1 true none)) = some (x, env3, h3) → idleOf h3 l jump = some (v, h') →
                    (∀ a w3 v' w4, (Instr.endRound b jump).run P w3 = .ok v' w4 → InlPost pol Z D β w v h' (.returned v') w4 → roundPost P b (InlPost pol Z D β w v h') x.toExit a w3) →
                    body.wpIn (Fence.wide.inRound b) 0 P (roundPost P b (InlPost pol Z D β w v h')) a1 (w1.putObj b (.loop { L1 with state := .busy })) := by
                  intro x jump env3 h3 hbody hidle hpost
                  refine code_sim hcp hK ih (hdraw _ ih) body (ro := some b) (M := w.heap.size) (n := n) (f := f) hbody ((hcp _ _).1 hcode.2) st2 (by simpa using x1.size) fun D3 β3 w3 a3 st3 x3 => ?_
                  unfold idleOf at hidle
                  split at hidle
                  · rename_i f3 env3' ps3 as3 bd3 hget3
                    simp at hidle
                    obtain ⟨rfl, rfl⟩ := hidle
                    have hb3 := x3.bet _ _ _ hb1
                    obtain ⟨_, hD3, L3, hL3, hc3, hp3, ha3, hbd3, hpe3, hst3, he3⟩ := st3.inv.obj _ _ hget3 0 b k hb3
                    have hend := run_endRound (P := P) jump hL3
                    obtain ⟨i4, x4⟩ := inv_putLoop (x := .loop f3 env3' ps3 as3 bd3 false jump) (L' := { L3 with state := if jump.isNone then .ready else .done, pending := jump }) st3.inv hb3 hD3 hL3 (by
                      intro e b' k' hb'
                      have hx' := putLoop_ext (L' := { L3 with state := if jump.isNone then .ready else .done, pending := jump }) st3.inv hb3 hD3 hL3
                      obtain ⟨q0, _⟩ := st3.inv.obj _ _ hget3 e b' k' hb'
                      subst q0
                      rw [hb3] at hb'
                      cases hb'
                      exact ⟨rfl, hD3, _, World.putObj_heap_same (lt_of_heap hL3), hc3, hp3, ha3, hbd3, rfl, by simp, he3.mono hx'⟩)
                    exact hpost a3 w3 _ _ hend ⟨_, rfl, D3, β3, i4, st3.glob.mono x4, ((x1.trans x2).trans x3).trans x4, .t _ _ (.sc _ rfl)⟩
                  · simp at hidle
                split at hs
                · rename_i env3 h3 hbody
                  exact fin .normal none env3 h3 hbody hs fun a w3 v' w4 h1 h2 => ⟨v', w4, h1, h2⟩
                · rename_i env3 h3 hbody
                  exact fin .ret (some .ret) env3 h3 hbody hs fun a w3 v' w4 h1 h2 => ⟨v', w4, h1, h2⟩
                · rename_i id env3 h3 hbody
                  exact fin (.exit id) (some (.exit id)) env3 h3 hbody hs fun a w3 v' w4 h1 h2 => ⟨v', w4, h1, h2⟩
                · simp at hs
              · simp at hbusy
            · simp at hs
          · simp at hs
      · simp at hs

/-- A call with trees, in an empty heap. -/
theorem top_sim [Cp] {ok : List (Nat × Nat) → Array Oper → Bool} {n d : Nat} (hcp : ∀ f c, Cp.ok f c ↔ codeOk pol ok f c = true) (hP : ProgOk P pol ok) (hK : KOk P pol K) (hdraw : ∀ I, IOk P pol I → DrawnOk P pol K I ok)
    {ts : List T} {r : T} (hr : runTop P pol K n d f ts = some r) : PureSim P pol f ts r := by
  unfold runTop at hr
  split at hr
  · rename_i v h' hb
    have hI := inl_sim (n := n) hcp hP hK hdraw d
    obtain ⟨hc, hsim⟩ := body_sim hcp hP hK hI (hdraw _ hI) hb
    refine ⟨hc, fun w D args hd hg hsz hargs => ?_⟩
    have hi : Inv { N := w.heap.size, W := w, D := D } D (fun _ _ => none) [] w :=
      ⟨⟨Nat.le_refl _, fun _ _ => rfl, rfl, rfl, hd, fun b hb _ => hb, fun o e b k hb => by simp at hb, fun o e b k o' e' k' hb => by simp at hb,
        fun b ds hb hN => absurd (lt_of_heap hb) (by simp at hN ⊢; omega)⟩, fun o x hx => by simp at hx, fun o e y hy => by simp at hy⟩
    have hrl : RepL D (fun _ _ => none) w args.toList (ts.map .t) := repL_trees hsz hargs
    have := hsim _ D _ w args.toList hi hg hrl
    simp only [Array.toArray_toList] at this
    refine CallsIn.mono this fun e w' hp => ?_
    obtain ⟨v', rfl, D', β', i2, _, x2, r2⟩ := hp
    refine ⟨v', rfl, ⟨i2.g.size0, i2.g.old, i2.g.os, i2.g.out⟩, ?_⟩
    have hs := snap_rep (D2 := dObj D' β' allObj) (fun o x _ hx => i2.obj o x hx) (fun b hb => .inl hb) (fun o e b k hp hb => .inr ⟨o, e, k, hp, hb⟩) 20 _ v' r hr r2
    have g := i2.g.dObj allObj
    refine hs.mono (fun b hb => ?_) (fun _ _ => rfl)
    by_cases hl : b < w.heap.size
    · exact .inl (g.dn b hb hl)
    · exact .inr ⟨by omega, g.dlt b hb, fun ds hds => (g.nd b ds hds (by simp; omega)).1 hb⟩
  · simp at hr

end Go.Abs

/- Regions that draw their order: what the evaluator's operations hang on, and what they leave alone. -/
namespace Go.Abs
open Go

variable {P : Program} {pol : Pol} {f : FuncId} {h h' : Heap} {ρ ρ' : Operand → AV}

theorem zipT_congr {l : List (Nat × Operand)} (hc : ∀ x ∈ l.map (·.2), ρ x = ρ' x) : zipT ρ l = zipT ρ' l := by
  induction l with
  | nil => rfl
  | cons p r ih =>
    obtain ⟨i, x⟩ := p
    simp only [zipT]
    rw [hc x (by simp), ih (fun y hy => hc y (by simp at hy ⊢; exact .inr hy))]

theorem optMap_congr {x : Option Operand} (hc : ∀ y ∈ x.toArray, ρ y = ρ' y) : x.map ρ = x.map ρ' := by
  cases x with
  | none => rfl
  | some y => simp [hc y (by simp)]

theorem map_congr_ops {l : List Operand} (hc : ∀ y ∈ l, ρ y = ρ' y) : l.map ρ = l.map ρ' := List.map_congr_left hc

theorem aOp_congr {o : Oper} (hc : ∀ x ∈ o.op.operands, ρ x = ρ' x) : aOp P pol f ρ h o = aOp P pol f ρ' h o := by
  cases hop : o.op with
  | call c =>
    rw [hop] at hc
    simp only [aOp, hop]
    have ha : c.args.toList.map ρ = c.args.toList.map ρ' := map_congr_ops fun y hy => hc y (by simp [Op.operands, Call.operands]; exact .inr (by simpa using hy))
    rw [ha]
    split
    · rfl
    · rename_i g hg
      rw [hc g (by simp [Op.operands, Call.operands, hg])]
    · rfl
  | build t parts =>
    rw [hop] at hc
    simp only [aOp, hop]
    rw [zipT_congr (l := parts.toList) (fun x hx => hc x (by simpa [Op.operands] using hx))]
  | buildSlice t len parts =>
    rw [hop] at hc
    simp only [aOp, hop]
    rw [zipT_congr (l := parts.toList) (fun x hx => hc x (by simpa [Op.operands] using hx))]
  | makeFunc fn first captured =>
    rw [hop] at hc
    simp only [aOp, hop]
    have h1 : first.toList.map ρ = first.toList.map ρ' := map_congr_ops fun y hy => hc y (by simp [Op.operands]; exact .inl (by simpa using hy))
    have h2 : captured.toList.map ρ = captured.toList.map ρ' := map_congr_ops fun y hy => hc y (by simp [Op.operands]; exact .inr (by simpa using hy))
    rw [h1, h2]
  | slice t x lo hi mx =>
    rw [hop] at hc
    simp only [aOp, hop]
    rw [hc x (by simp [Op.operands]), optMap_congr (x := lo) (fun y hy => hc y (by simp [Op.operands] at hy ⊢; simp [hy])), optMap_congr (x := hi) (fun y hy => hc y (by simp [Op.operands] at hy ⊢; simp [hy])),
      optMap_congr (x := mx) (fun y hy => hc y (by simp [Op.operands] at hy ⊢; simp [hy]))]
  | makeMap t r => cases r <;> simp only [aOp, hop]
  | alloc t => simp only [aOp, hop]
  | move x => rw [hop] at hc; simp only [aOp, hop, hc x (by simp [Op.operands])]
  | assign x => rw [hop] at hc; simp only [aOp, hop, hc x (by simp [Op.operands])]
  | box t x => rw [hop] at hc; simp only [aOp, hop, hc x (by simp [Op.operands])]
  | load t x => rw [hop] at hc; simp only [aOp, hop, hc x (by simp [Op.operands])]
  | nilCheck x => rw [hop] at hc; simp only [aOp, hop, hc x (by simp [Op.operands])]
  | unOp op t x => rw [hop] at hc; simp only [aOp, hop, hc x (by simp [Op.operands])]
  | convert s t x => rw [hop] at hc; simp only [aOp, hop, hc x (by simp [Op.operands])]
  | fieldAddr s x i => rw [hop] at hc; simp only [aOp, hop, hc x (by simp [Op.operands])]
  | field s x i => rw [hop] at hc; simp only [aOp, hop, hc x (by simp [Op.operands])]
  | extract x i => rw [hop] at hc; simp only [aOp, hop, hc x (by simp [Op.operands])]
  | pick c a b => rw [hop] at hc; simp only [aOp, hop, hc c (by simp [Op.operands]), hc a (by simp [Op.operands]), hc b (by simp [Op.operands])]
  | store t a x => rw [hop] at hc; simp only [aOp, hop, hc a (by simp [Op.operands]), hc x (by simp [Op.operands])]
  | binOp op t x y yt => rw [hop] at hc; simp only [aOp, hop, hc x (by simp [Op.operands]), hc y (by simp [Op.operands])]
  | makeSlice t l c => rw [hop] at hc; simp only [aOp, hop, hc l (by simp [Op.operands]), hc c (by simp [Op.operands])]
  | indexAddr t x i => rw [hop] at hc; simp only [aOp, hop, hc x (by simp [Op.operands]), hc i (by simp [Op.operands])]
  | index t x i => rw [hop] at hc; simp only [aOp, hop, hc x (by simp [Op.operands]), hc i (by simp [Op.operands])]
  | lookup t x i ok => rw [hop] at hc; simp only [aOp, hop, hc x (by simp [Op.operands]), hc i (by simp [Op.operands])]
  | mapUpdate t m k x => rw [hop] at hc; simp only [aOp, hop, hc m (by simp [Op.operands]), hc k (by simp [Op.operands]), hc x (by simp [Op.operands])]
  | insert t m k x => rw [hop] at hc; simp only [aOp, hop, hc m (by simp [Op.operands]), hc k (by simp [Op.operands]), hc x (by simp [Op.operands])]
  | _ => simp only [aOp, hop]

theorem touch0_congr {o : Oper} (hc : ∀ x ∈ o.op.operands, ρ x = ρ' x) : touch0 pol f ρ o = touch0 pol f ρ' o := by
  cases hop : o.op with
  | call c =>
    rw [hop] at hc
    simp only [touch0, hop]
    have ha : ∀ y ∈ c.args.toList, ρ y = ρ' y := fun y hy => hc y (by simp [Op.operands, Call.operands]; exact .inr (by simpa using hy))
    have hf : (c.args.toList.flatMap fun a => objsOf (ρ a)) = c.args.toList.flatMap fun a => objsOf (ρ' a) := by
      simp only [List.flatMap]
      rw [List.map_congr_left (fun y hy => by rw [ha y hy])]
    rw [map_congr_ops ha, hf]
    split
    · rfl
    · rfl
    · rfl
    · rfl
    · rename_i g hg
      rw [hc g (by simp [Op.operands, Call.operands, hg])]
    · rfl
  | load t x => rw [hop] at hc; simp only [touch0, hop, hc x (by simp [Op.operands])]
  | store t a x => rw [hop] at hc; simp only [touch0, hop, hc a (by simp [Op.operands])]
  | lookup t x i ok => rw [hop] at hc; simp only [touch0, hop, hc x (by simp [Op.operands])]
  | mapUpdate t m k x => rw [hop] at hc; simp only [touch0, hop, hc m (by simp [Op.operands])]
  | insert t m k x => rw [hop] at hc; simp only [touch0, hop, hc m (by simp [Op.operands])]
  | _ => simp only [touch0, hop]

/-! ### What an operation leaves alone -/

/-- The objects outside l are as they were; none is gone. -/
def Leaves (l : List Nat) (h h' : Heap) : Prop := h.length ≤ h'.length ∧ ∀ q : Nat, q < h.length → q ∉ l → h'[q]? = h[q]?

theorem leaves_same (l : List Nat) (h : Heap) : Leaves l h h := ⟨Nat.le_refl _, fun _ _ _ => rfl⟩
theorem leaves_append (l : List Nat) (h x : Heap) : Leaves l h (h ++ x) := ⟨by simp, fun q hq _ => List.getElem?_append_left hq⟩
theorem leaves_set {l : List Nat} {o : Nat} (hm : o ∈ l) (h : Heap) (x : AObj) : Leaves l h (h.set o x) := ⟨by simp, fun q _ hn => List.getElem?_set_ne (fun e => hn (by rw [← e]; exact hm))⟩

theorem aAppend_leaves {t : TypeId} {s x v : AV} (ha : aAppend P t s x h = some (v, h')) : Leaves (objsOf s ++ objsOf x) h h' := by
  revert ha
  unfold aAppend
  repeat' split
  all_goals (intro ha; cases ha)
  all_goals first | exact leaves_same _ _ | exact leaves_append _ _ _ | exact leaves_set (by simp [objsOf]) _ _

theorem aCopy_leaves {t : TypeId} {d s v : AV} (ha : aCopy P t d s h = some (v, h')) : Leaves (objsOf d ++ objsOf s) h h' := by
  revert ha
  unfold aCopy
  repeat' split
  all_goals (intro ha; cases ha)
  all_goals first | exact leaves_same _ _ | exact leaves_set (by simp [objsOf]) _ _

theorem aStore_leaves {t : TypeId} {a v : AV} (ha : aStore P t a v h = some h') : Leaves (objsOf a) h h' := by
  revert ha
  unfold aStore
  repeat' split
  all_goals (intro ha; cases ha)
  all_goals exact leaves_set (by simp [objsOf]) _ _

theorem aMapSet_leaves {t : TypeId} {m k v : AV} (ha : aMapSet P t m k v h = some h') : Leaves (objsOf m) h h' := by
  revert ha
  unfold aMapSet
  repeat' split
  all_goals (intro ha; cases ha)
  all_goals exact leaves_set (by simp [objsOf]) _ _

inductive Kind where
  | n | r | a | w

/-- What an operation may do to the objects, by its text: nothing, read, make new ones, anything. -/
def kindOf (o : Op) : Kind :=
  match o with
  | .load .. => .r
  | .lookup .. => .r
  | .assign _ => .a
  | .alloc _ => .a
  | .box .. => .a
  | .buildSlice .. => .a
  | .makeMap .. => .a
  | .makeSlice .. => .a
  | .store .. => .w
  | .insert .. => .w
  | .mapUpdate .. => .w
  | .call c => match c.callee with
    | .builtin .len => .r
    | .builtin .min => .n
    | .builtin .max => .n
    | _ => .w
  | _ => .n

def Kind.quiet : Kind → Bool
  | .n => true
  | .r => true
  | _ => false

theorem aOp_frame {o : Oper} {r : Res} {v : AV} (ha : aOp P pol f ρ h o = some r) (hv : resVal r = some (v, h')) :
    ∃ l, touch0 pol f ρ o = some l ∧ Leaves l h h' ∧ ((kindOf o.op).quiet = true → h' = h) ∧ (kindOf o.op = .n → l = []) ∧ (kindOf o.op = .a → l = []) := by
  obtain ⟨G, hG⟩ : ∃ G : Prop, G = (∃ l, touch0 pol f ρ o = some l ∧ Leaves l h h' ∧ ((kindOf o.op).quiet = true → h' = h) ∧ (kindOf o.op = .n → l = []) ∧ (kindOf o.op = .a → l = [])) := ⟨_, rfl⟩
  rw [← hG]
  have flag : ∀ {x : Option AV}, (match x with | some v => some (Res.val v h) | none => none) = some r → h' = h := by
    intro x hx
    cases x with
    | none => simp at hx
    | some y => simp at hx; subst hx; simp [resVal] at hv; exact hv.2.symm
  have same : h' = h → ∀ l, touch0 pol f ρ o = some l → (kindOf o.op = .n → l = []) → (kindOf o.op = .a → l = []) → G := by
    intro e l hl h1 h2
    subst e
    rw [hG]
    exact ⟨l, hl, leaves_same _ _, fun _ => rfl, h1, h2⟩
  have mk : ∀ {x : Heap}, h' = h ++ x → touch0 pol f ρ o = some [] → kindOf o.op = .a → G := by
    intro x e ht hk
    subst e
    rw [hG]
    exact ⟨[], ht, leaves_append _ _ _, fun hq => by rw [hk] at hq; simp [Kind.quiet] at hq, fun _ => rfl, fun _ => rfl⟩
  have wr : ∀ {l : List Nat}, touch0 pol f ρ o = some l → Leaves l h h' → kindOf o.op = .w → G := by
    intro l ht hl hk
    rw [hG]
    exact ⟨l, ht, hl, fun hq => (by rw [hk] at hq; simp [Kind.quiet] at hq), fun e => (by rw [hk] at e; cases e), fun e => (by rw [hk] at e; cases e)⟩
  clear hG
  cases hop : o.op with
  | move x => simp only [aOp, hop] at ha; cases ha; cases hv; exact same rfl [] (by simp [touch0, hop]) (fun _ => rfl) (fun _ => rfl)
  | assign x =>
    revert ha
    simp only [aOp, hop]
    repeat' split
    all_goals (intro ha; cases ha)
    all_goals cases hv
    all_goals first | exact same rfl [] (by simp [touch0, hop]) (fun _ => rfl) (fun _ => rfl) | exact mk rfl (by simp [touch0, hop]) (by simp [kindOf, hop])
  | pick c a b =>
    revert ha
    simp only [aOp, hop]
    repeat' split
    all_goals (intro ha; cases ha)
    all_goals cases hv
    all_goals exact same rfl [] (by simp [touch0, hop]) (fun _ => rfl) (fun _ => rfl)
  | alloc t =>
    revert ha
    simp only [aOp, hop]
    repeat' split
    all_goals (intro ha; cases ha)
    all_goals cases hv
    all_goals exact mk rfl (by simp [touch0, hop]) (by simp [kindOf, hop])
  | box t x =>
    revert ha
    simp only [aOp, hop]
    repeat' split
    all_goals (intro ha; cases ha)
    all_goals cases hv
    all_goals first | exact same rfl [] (by simp [touch0, hop]) (fun _ => rfl) (fun _ => rfl) | exact mk rfl (by simp [touch0, hop]) (by simp [kindOf, hop])
  | build t parts => simp only [aOp, hop] at ha; exact same (flag ha) [] (by simp [touch0, hop]) (fun _ => rfl) (fun _ => rfl)
  | buildSlice t len parts =>
    revert ha
    simp only [aOp, hop]
    repeat' split
    all_goals (intro ha; cases ha)
    all_goals cases hv
    all_goals first | exact same rfl [] (by simp [touch0, hop]) (fun _ => rfl) (fun _ => rfl) | exact mk rfl (by simp [touch0, hop]) (by simp [kindOf, hop])
  | load t a => simp only [aOp, hop] at ha; exact same (flag ha) (objsOf (ρ a)) (by simp [touch0, hop]) (by simp [kindOf, hop]) (by simp [kindOf, hop])
  | store t a x =>
    simp only [aOp, hop] at ha
    split at ha
    · rename_i h2 hs
      cases ha; cases hv
      exact wr (by simp [touch0, hop]) (aStore_leaves hs) (by simp [kindOf, hop])
    · simp at ha
  | nilCheck x =>
    revert ha
    simp only [aOp, hop]
    repeat' split
    all_goals (intro ha; cases ha)
    all_goals cases hv
    all_goals exact same rfl [] (by simp [touch0, hop]) (fun _ => rfl) (fun _ => rfl)
  | binOp op t x y yt => simp only [aOp, hop] at ha; exact same (flag ha) [] (by simp [touch0, hop]) (fun _ => rfl) (fun _ => rfl)
  | unOp op t x =>
    revert ha
    simp only [aOp, hop]
    repeat' split
    all_goals (intro ha; cases ha)
    all_goals cases hv
    all_goals exact same rfl [] (by simp [touch0, hop]) (fun _ => rfl) (fun _ => rfl)
  | convert s t x =>
    revert ha
    simp only [aOp, hop]
    repeat' split
    all_goals (intro ha; cases ha)
    all_goals cases hv
    all_goals exact same rfl [] (by simp [touch0, hop]) (fun _ => rfl) (fun _ => rfl)
  | makeFunc fn first captured =>
    revert ha
    simp only [aOp, hop]
    repeat' split
    all_goals (intro ha; cases ha)
    all_goals cases hv
    all_goals exact same rfl [] (by simp [touch0, hop]) (fun _ => rfl) (fun _ => rfl)
  | makeMap t r' =>
    cases r' with
    | none => simp only [aOp, hop] at ha; cases ha; cases hv; exact mk rfl (by simp [touch0, hop]) (by simp [kindOf, hop])
    | some _ => simp [aOp, hop] at ha
  | makeSlice t l c =>
    revert ha
    simp only [aOp, hop]
    repeat' split
    all_goals (intro ha; cases ha)
    all_goals cases hv
    all_goals exact mk rfl (by simp [touch0, hop]) (by simp [kindOf, hop])
  | slice t x lo hi mx => simp only [aOp, hop] at ha; exact same (flag ha) [] (by simp [touch0, hop]) (fun _ => rfl) (fun _ => rfl)
  | fieldAddr s x fi => simp only [aOp, hop] at ha; exact same (flag ha) [] (by simp [touch0, hop]) (fun _ => rfl) (fun _ => rfl)
  | field s x fi =>
    simp only [aOp, hop] at ha
    split at ha
    · exact same (flag ha) [] (by simp [touch0, hop]) (fun _ => rfl) (fun _ => rfl)
    · simp at ha
  | indexAddr t x ix => simp only [aOp, hop] at ha; exact same (flag ha) [] (by simp [touch0, hop]) (fun _ => rfl) (fun _ => rfl)
  | index t x ix => simp only [aOp, hop] at ha; exact same (flag ha) [] (by simp [touch0, hop]) (fun _ => rfl) (fun _ => rfl)
  | lookup t x ix ok => simp only [aOp, hop] at ha; exact same (flag ha) (objsOf (ρ x)) (by simp [touch0, hop]) (by simp [kindOf, hop]) (by simp [kindOf, hop])
  | mapUpdate t m k x =>
    simp only [aOp, hop] at ha
    split at ha
    · rename_i h2 hs
      cases ha; cases hv
      exact wr (by simp [touch0, hop]) (aMapSet_leaves hs) (by simp [kindOf, hop])
    · simp at ha
  | insert t m k x =>
    simp only [aOp, hop] at ha
    split at ha
    · rename_i h2 hs
      cases ha; cases hv
      exact wr (by simp [touch0, hop]) (aMapSet_leaves hs) (by simp [kindOf, hop])
    · simp at ha
  | extract x i =>
    simp only [aOp, hop] at ha
    split at ha
    · split at ha
      · cases ha; cases hv; exact same rfl [] (by simp [touch0, hop]) (fun _ => rfl) (fun _ => rfl)
      · simp at ha
    · exact same (flag ha) [] (by simp [touch0, hop]) (fun _ => rfl) (fun _ => rfl)
    · simp at ha
  | call c =>
    simp only [aOp, hop] at ha
    split at ha
    · rename_i b hb
      revert ha
      unfold aBuiltin
      split
      · repeat' split
        all_goals (intro ha; cases ha)
        all_goals cases hv
        all_goals exact same rfl (c.args.toList.flatMap fun a => objsOf (ρ a)) (by simp [touch0, hop, hb]) (by simp [kindOf, hop, hb]) (by simp [kindOf, hop, hb])
      · rename_i s x hargs
        repeat' split
        all_goals (intro ha; cases ha)
        all_goals cases hv
        rename_i ht
        refine wr (l := c.args.toList.flatMap fun a => objsOf (ρ a)) (by simp [touch0, hop, hb]) ?_ (by simp [kindOf, hop, hb])
        have e : (c.args.toList.flatMap fun a => objsOf (ρ a)) = objsOf s ++ objsOf x := by
          have : (c.args.toList.flatMap fun a => objsOf (ρ a)) = (c.args.toList.map ρ).flatMap objsOf := by simp [List.flatMap_map]
          rw [this, hargs]; simp
        rw [e]
        exact aAppend_leaves ht
      · rename_i s x hargs
        repeat' split
        all_goals (intro ha; cases ha)
        all_goals cases hv
        rename_i ht
        refine wr (l := c.args.toList.flatMap fun a => objsOf (ρ a)) (by simp [touch0, hop, hb]) ?_ (by simp [kindOf, hop, hb])
        have e : (c.args.toList.flatMap fun a => objsOf (ρ a)) = objsOf s ++ objsOf x := by
          have : (c.args.toList.flatMap fun a => objsOf (ρ a)) = (c.args.toList.map ρ).flatMap objsOf := by simp [List.flatMap_map]
          rw [this, hargs]; simp
        rw [e]
        exact aCopy_leaves ht
      · intro ha; cases ha; cases hv; exact same rfl [] (by simp [touch0, hop, hb]) (fun _ => rfl) (fun _ => rfl)
      · intro ha; cases ha; cases hv; exact same rfl [] (by simp [touch0, hop, hb]) (fun _ => rfl) (fun _ => rfl)
      · intro ha; cases ha
    · rename_i x hx
      exfalso
      revert ha
      unfold aCallee callOf
      repeat' split
      all_goals (intro ha; cases ha)
      all_goals cases hv
    · simp at ha
  | _ => simp [aOp, hop] at ha

end Go.Abs

/- The orders that a region may draw: each lists every operation once, behind those that it waits for. -/
namespace Go.Abs
open Go

variable {ops : Array Oper}

/-- S: what has been run. The list runs the rest, each operation behind those that it waits for. -/
def Valid (ops : Array Oper) : (Nat → Prop) → List Nat → Prop
  | S, [] => ∀ i, i < ops.size → S i
  | S, i :: l => ¬ S i ∧ (∃ o, ops[i]? = some o ∧ ∀ e ∈ o.after, Region.binds .any e = true → S e.on) ∧ Valid ops (fun j => S j ∨ j = i) l

theorem Valid.congr {S S' : Nat → Prop} {l : List Nat} (hs : ∀ i, S i ↔ S' i) (hv : Valid ops S l) : Valid ops S' l := by
  have : S = S' := funext fun i => propext (hs i)
  exact this ▸ hv

/-- How many are not listed. -/
def unlisted (l : Array Bool) : Nat := l.toList.countP (fun b => !b)

theorem unlisted_set {l : Array Bool} {i : Nat} (hi : l[i]? = some false) : unlisted l = unlisted (l.setIfInBounds i true) + 1 := by
  unfold unlisted
  rw [Array.toList_setIfInBounds]
  have h' : l.toList[i]? = some false := by simpa using hi
  clear hi
  generalize l.toList = xs at h'
  induction xs generalizing i with
  | nil => simp at h'
  | cons x xs ih =>
    cases i with
    | zero => simp at h'; subst h'; simp
    | succ i =>
      have := ih (i := i) (by simpa using h')
      simp only [List.set_cons_succ, List.countP_cons]
      omega

theorem exists_unlisted {l : Array Bool} (hu : 0 < unlisted l) : ∃ i : Nat, l[i]? = some false ∧ ∀ j : Nat, j < i → l[j]? = some true := by
  unfold unlisted at hu
  have key : ∀ xs : List Bool, 0 < xs.countP (fun b => !b) → ∃ i : Nat, xs[i]? = some false ∧ ∀ j : Nat, j < i → xs[j]? = some true := by
    intro xs
    induction xs with
    | nil => intro h; simp at h
    | cons x xs ih =>
      intro h
      cases x with
      | false => exact ⟨0, rfl, fun j hj => by omega⟩
      | true =>
        obtain ⟨i, h1, h2⟩ := ih (by simpa using h)
        refine ⟨i + 1, by simpa using h1, fun j hj => ?_⟩
        cases j with
        | zero => rfl
        | succ j => simpa using h2 j (by omega)
  obtain ⟨i, h1, h2⟩ := key l.toList hu
  exact ⟨i, by simpa using h1, fun j hj => by simpa using h2 j hj⟩

theorem go_valid (hedge : ∀ (i : Nat) o, ops[i]? = some o → ∀ e ∈ o.after, Region.binds .any e = true → e.on < i) : ∀ (fuel t : Nat) (listed : Array Bool) (acc : List Nat), listed.size = ops.size → unlisted listed = fuel →
    ∃ l, Region.linearise.go .any ops fuel t listed acc = acc.reverse ++ l ∧ Valid ops (fun i => listed.getD i false = true) l := by
  intro fuel
  induction fuel with
  | zero =>
    intro t listed acc hs hu
    refine ⟨[], by simp [Region.linearise.go], fun i hi => ?_⟩
    have hi' : i < listed.size := by omega
    unfold unlisted at hu
    rw [List.countP_eq_zero] at hu
    have := hu listed[i] (by simp)
    show listed.getD i false = true
    rw [Array.getD_eq_getD_getElem?, Array.getElem?_eq_getElem hi']
    simpa using this
  | succ fuel ih =>
    intro t listed acc hs hu
    simp only [Region.linearise.go]
    generalize hrs : (List.range ops.size).filter (fun i => !listed.getD i true && ((ops[i]?).map (·.after.all fun e => !Region.binds .any e || listed.getD e.on false)).getD false) = rs
    have hne : rs ≠ [] := by
      obtain ⟨i, h1, h2⟩ := exists_unlisted (l := listed) (by omega)
      have hi : i < ops.size := by rw [← hs]; exact (Array.getElem?_eq_some_iff.1 h1).1
      have hm : i ∈ rs := by
        rw [← hrs, List.mem_filter]
        refine ⟨by simp [hi], ?_⟩
        have ho : ops[i]? = some ops[i] := by simp [hi]
        simp only [Array.getD_eq_getD_getElem?, h1, ho, Option.getD_some, Option.map_some, Bool.not_false, Bool.true_and]
        rw [Array.all_eq_true_iff_forall_mem]
        intro e he
        by_cases hb : Region.binds .any e = true
        · have := h2 _ (hedge i _ ho e he hb)
          simp [this]
        · simp [hb]
      intro e
      rw [e] at hm
      cases hm
    have hlt : t % rs.length < rs.length := Nat.mod_lt _ (List.length_pos_iff.2 hne)
    rw [List.getElem?_eq_getElem hlt]
    simp only
    have hmem : rs[t % rs.length] ∈ rs := List.getElem_mem hlt
    generalize rs[t % rs.length] = i at hmem
    rw [← hrs, List.mem_filter] at hmem
    obtain ⟨hi, hc⟩ := hmem
    have hi : i < ops.size := by simpa using hi
    have hi' : i < listed.size := by omega
    have ho : ops[i]? = some ops[i] := by simp [hi]
    simp only [Bool.and_eq_true] at hc
    have hf : listed[i]? = some false := by
      have := hc.1
      rw [Array.getD_eq_getD_getElem?, Array.getElem?_eq_getElem hi'] at this
      rw [Array.getElem?_eq_getElem hi']
      simpa using this
    obtain ⟨l, hl, hv⟩ := ih (t / rs.length) (listed.setIfInBounds i true) (i :: acc) (by simp [hs]) (by have := unlisted_set hf; omega)
    refine ⟨i :: l, by rw [hl]; simp, ?_, ⟨_, ho, fun e he hb => ?_⟩, hv.congr fun j => ?_⟩
    · simp [Array.getD_eq_getD_getElem?, hf]
    · have h2 := hc.2
      rw [ho] at h2
      simp only [Option.map_some, Option.getD_some] at h2
      rw [Array.all_eq_true_iff_forall_mem] at h2
      have := h2 e he
      simpa [hb] using this
    · show (listed.setIfInBounds i true).getD j false = true ↔ listed.getD j false = true ∨ j = i
      rw [Array.getD_eq_getD_getElem?, Array.getD_eq_getD_getElem?, Array.getElem?_setIfInBounds]
      by_cases hj : i = j
      · subst hj; simp [hi']
      · have hj' : ¬ j = i := fun e => hj e.symm
        simp [hj, hj']

theorem schedule_valid (hedge : ∀ (i : Nat) o, ops[i]? = some o → ∀ e ∈ o.after, Region.binds .any e = true → e.on < i) (t : Nat) : Valid ops (fun _ => False) (Region.schedule true ops t) := by
  obtain ⟨l, hl, hv⟩ := go_valid hedge ops.size t (Array.replicate ops.size false) [] (by simp) (by simp [unlisted, List.countP_replicate])
  have e : Region.schedule true ops t = l := by
    simp only [Region.schedule, Bool.true_or, if_true, Region.linearise]
    rw [hl]; simp
  rw [e]
  refine hv.congr fun i => ?_
  show (Array.replicate ops.size false).getD i false = true ↔ False
  rw [Array.getD_eq_getD_getElem?, Array.getElem?_replicate]
  split <;> simp

end Go.Abs

/- What is asked of a region that draws its order, and the trace of its run in the order of the text. -/
namespace Go.Abs
open Go

variable {P : Program} {pol : Pol} {K : Oracle} {I : Inl} {f : FuncId} {ops : Array Oper}

inductive Bef (ops : Array Oper) : Nat → Nat → Prop
  | edge (j : Nat) (o : Oper) (e : Edge) (ho : ops[j]? = some o) (he : e ∈ o.after) (hb : Region.binds .any e = true) : Bef ops e.on j
  | trans (i j : Nat) (o : Oper) (e : Edge) (ho : ops[j]? = some o) (he : e ∈ o.after) (hb : Region.binds .any e = true) (h : Bef ops i e.on) : Bef ops i j

def dstAt (ops : Array Oper) (i : Nat) : Option Tmp := (ops[i]?).bind (·.dst)

def tmpOf : Operand → Option Tmp
  | .tmp t => some t
  | _ => none

/-- The temporaries that an operation names. -/
def namesOf (ops : Array Oper) (o : Oper) : List Tmp :=
  o.dst.toList ++ o.op.operands.toList.filterMap tmpOf ++ (match o.guard with | some (g, _) => (dstAt ops g).toList | none => [])

def Kind.clash : Kind → Kind → Bool
  | .n, _ => false
  | _, .n => false
  | .r, .r => false
  | .a, .a => false
  | _, _ => true

def edgesOk (ops : Array Oper) : Bool :=
  (List.range ops.size).all fun j => match ops[j]? with
    | some o => o.after.all fun e => !Region.binds .any e || decide (e.on < j)
    | none => true

def masksOk (ops : Array Oper) (m : Array Nat) : Bool :=
  (List.range ops.size).all fun j => match ops[j]? with
    | some o => (List.range j).all fun i => !(m.getD j 0).testBit i || o.after.any fun e => Region.binds .any e && (e.on == i || (decide (i < e.on) && (m.getD e.on 0).testBit i))
    | none => true

def tempsOk (ops : Array Oper) (m : Array Nat) : Bool :=
  (List.range ops.size).all fun j => match ops[j]? with
    | some o => (List.range ops.size).all fun i => i == j || (match dstAt ops i with
      | some d => !(namesOf ops o).contains d || (m.getD (max i j) 0).testBit (min i j)
      | none => true)
    | none => true

def coverOk (crit : List (Nat × Nat)) (ops : Array Oper) (m : Array Nat) : Bool :=
  (List.range ops.size).all fun j => match ops[j]? with
    | some o => (List.range j).all fun i => match ops[i]? with
      | some p => !(kindOf p.op).clash (kindOf o.op) || (m.getD j 0).testBit i || crit.contains (i, j)
      | none => true
    | none => true

/-- The check of a region that draws its order. -/
def regionOk (crit : List (Nat × Nat)) (ops : Array Oper) : Bool :=
  edgesOk ops && masksOk ops (Region.before ops) && tempsOk ops (Region.before ops) && coverOk crit ops (Region.before ops)

structure RegOk (crit : List (Nat × Nat)) (ops : Array Oper) : Prop where
  edges : ∀ (i : Nat) o, ops[i]? = some o → ∀ e ∈ o.after, Region.binds .any e = true → e.on < i
  temps : ∀ (i j : Nat) o d, ops[j]? = some o → i ≠ j → dstAt ops i = some d → d ∈ namesOf ops o → (i < j ∧ Bef ops i j) ∨ (j < i ∧ Bef ops j i)
  cover : ∀ (i j : Nat) p o, ops[i]? = some p → ops[j]? = some o → i < j → (kindOf p.op).clash (kindOf o.op) = true → Bef ops i j ∨ (i, j) ∈ crit

theorem lt_of_ops {i : Nat} {o : Oper} (h : ops[i]? = some o) : i < ops.size := (Array.getElem?_eq_some_iff.1 h).1

theorem regionOk_ok {crit : List (Nat × Nat)} (h : regionOk crit ops = true) : RegOk crit ops := by
  simp only [regionOk, Bool.and_eq_true] at h
  obtain ⟨⟨⟨h1, h2⟩, h3⟩, h4⟩ := h
  have edges : ∀ (i : Nat) o, ops[i]? = some o → ∀ e ∈ o.after, Region.binds .any e = true → e.on < i := by
    intro i o ho e he hb
    have := List.all_eq_true.1 h1 i (by simp [lt_of_ops ho])
    simp only [ho, Array.all_eq_true_iff_forall_mem] at this
    have := this e he
    simpa [hb] using this
  have masks : ∀ (j i : Nat), j < ops.size → i < j → ((Region.before ops).getD j 0).testBit i = true → Bef ops i j := by
    intro j
    induction j using Nat.strongRecOn with
    | _ j ih =>
      intro i hj hi hb
      have ho : ops[j]? = some ops[j] := by simp [hj]
      have := List.all_eq_true.1 h2 j (by simp [hj])
      simp only [ho, List.all_eq_true] at this
      have := this i (by simp [hi])
      simp only [hb, Bool.not_true, Bool.false_or, Array.any_eq_true] at this
      obtain ⟨k, hk, hkb⟩ := this
      simp only [Bool.and_eq_true, Bool.or_eq_true, beq_iff_eq, decide_eq_true_eq] at hkb
      obtain ⟨hbind, hor⟩ := hkb
      have hmem : ops[j].after[k] ∈ ops[j].after := Array.getElem_mem _
      rcases hor with e | ⟨hi', hb'⟩
      · rw [← e]; exact .edge j _ _ ho hmem hbind
      · have hlt := edges j _ ho _ hmem hbind
        exact .trans i j _ _ ho hmem hbind (ih _ hlt i (by omega) hi' hb')
  refine ⟨edges, fun i j o d ho hij hd hn => ?_, fun i j p o hp ho hij hc => ?_⟩
  · have hi : i < ops.size := by
      unfold dstAt at hd
      cases hx : ops[i]? with
      | none => simp [hx] at hd
      | some p => exact lt_of_ops hx
    have := List.all_eq_true.1 h3 j (by simp [lt_of_ops ho])
    simp only [ho, List.all_eq_true] at this
    have := this i (by simp [hi])
    simp only [hd, Bool.or_eq_true, beq_iff_eq, hij, false_or] at this
    have hb : ((Region.before ops).getD (max i j) 0).testBit (min i j) = true := by simpa [hn] using this
    by_cases hl : i < j
    · rw [Nat.max_eq_right (by omega), Nat.min_eq_left (by omega)] at hb
      exact .inl ⟨hl, masks j i (lt_of_ops ho) hl hb⟩
    · have hl : j < i := by omega
      rw [Nat.max_eq_left (by omega), Nat.min_eq_right (by omega)] at hb
      exact .inr ⟨hl, masks i j hi hl hb⟩
  · have := List.all_eq_true.1 h4 j (by simp [lt_of_ops ho])
    simp only [ho, List.all_eq_true] at this
    have := this i (by simp [hij])
    simp only [hp, hc, Bool.not_true, Bool.false_or, Bool.or_eq_true] at this
    rcases this with hb | hm
    · exact .inl (masks j i (lt_of_ops ho) hij hb)
    · exact .inr (by simpa using hm)

end Go.Abs

/- The trace of a region's run in the order of the text. -/
namespace Go.Abs
open Go

variable {P : Program} {pol : Pol} {K : Oracle} {I : Inl} {f : FuncId} {ops : Array Oper}

/-- What one step of the evaluator is: an operation, a call with trees, or a call with the heap. -/
inductive StepKind (P : Program) (pol : Pol) (K : Oracle) (I : Inl) (f : FuncId) (o : Oper) (ρ : Operand → AV) (h : Heap) (v : AV) (h' : Heap) : Prop
  | plain (r : Res) (ha : aOp P pol f ρ h o = some r) (hv : resVal r = some (v, h'))
  | pure (g : FuncId) (args : List AV) (ts : List T) (r : T) (ha : aOp P pol f ρ h o = some (.call (.fn g) args)) (ht : touch0 pol f ρ o = some []) (hts : allT args = some ts) (hr : K g ts = some r) (hv : v = .t r) (hh : h' = h)
  | full (g : Tgt) (args : List AV) (ha : aOp P pol f ρ h o = some (.call g args)) (ht : touch0 pol f ρ o = none) (hc : aCall pol K I f (o.dst.getD 0) g args h = some (v, h'))

theorem step1_kind {o : Oper} {env env' : Env} {h h' : Heap} (hs : aStep1 P pol K I f o env h = some (env', h')) : ∃ v, env' = put env o.dst v ∧ StepKind P pol K I f o (evalOperand pol env) h v h' := by
  unfold aStep1 at hs
  split at hs
  · rename_i v h2 ha
    simp at hs
    obtain ⟨rfl, rfl⟩ := hs
    exact ⟨v, rfl, .plain _ ha rfl⟩
  · rename_i h2 ha
    simp at hs
    obtain ⟨rfl, rfl⟩ := hs
    exact ⟨_, rfl, .plain _ ha rfl⟩
  · rename_i g args ha
    split at hs
    · rename_i v h2 hc
      simp at hs
      obtain ⟨rfl, rfl⟩ := hs
      refine ⟨v, rfl, ?_⟩
      obtain ⟨c, x, ho, hcal, hac⟩ := aOp_call ha
      cases ht : touch0 pol f (evalOperand pol env) o with
      | none => exact .full g args ha ht hc
      | some l =>
        have ht' := ht
        simp only [touch0, ho, hcal, hac] at ht
        cases g with
        | yl q => simp at ht
        | fn g =>
          simp only at ht
          split at ht
          · simp at ht
          · rename_i hni
            split at ht
            · rename_i ts hts
              simp at ht
              subst ht
              simp only [aCall] at hc
              rw [if_neg (by simp [hni])] at hc
              simp only [hts] at hc
              split at hc
              · rename_i r hr
                simp at hc
                exact .pure g args ts r ha ht' hts hr hc.1.symm hc.2.symm
              · simp at hc
            · simp at ht
    · simp at hs
  · simp at hs

structure Trace (P : Program) (pol : Pol) (K : Oracle) (I : Inl) (f : FuncId) (ops : Array Oper) (E : Nat → Env) (H : Nat → Heap) (τ : Nat → Option (List Nat)) : Prop where
  step : ∀ (j : Nat) o, ops[j]? = some o → ∃ b v, guardOk ops.toList (E j) o.guard = some b ∧ E (j + 1) = put (E j) o.dst v ∧ (H j).length ≤ (H (j + 1)).length ∧
    ((b = true ∧ StepKind P pol K I f o (evalOperand pol (E j)) (H j) v (H (j + 1)) ∧ τ j = touchN (touch0 pol f (evalOperand pol (E j)) o) (H j) (H (j + 1))) ∨
     (b = false ∧ v = .t (.sc undef) ∧ H (j + 1) = H j ∧ τ j = some []))

theorem trace_of : ∀ (rest : List Oper) (k : Nat) (env : Env) (h : Heap) (env' : Env) (h' : Heap) (ts : List (Option (List Nat))), aOpsD P pol K I f ops.toList rest env h = some (env', h', ts) → (∀ j : Nat, rest[j]? = ops[k + j]?) →
    ∃ (E : Nat → Env) (H : Nat → Heap), E 0 = env ∧ H 0 = h ∧ E rest.length = env' ∧ H rest.length = h' ∧ ts.length = rest.length ∧
      ∀ (j : Nat) o, rest[j]? = some o → ∃ b v, guardOk ops.toList (E j) o.guard = some b ∧ E (j + 1) = put (E j) o.dst v ∧ (H j).length ≤ (H (j + 1)).length ∧
    ((b = true ∧ StepKind P pol K I f o (evalOperand pol (E j)) (H j) v (H (j + 1)) ∧ ts.getD j none = touchN (touch0 pol f (evalOperand pol (E j)) o) (H j) (H (j + 1))) ∨
     (b = false ∧ v = .t (.sc undef) ∧ H (j + 1) = H j ∧ ts.getD j none = some [])) := by
  intro rest
  induction rest with
  | nil =>
    intro k env h env' h' ts hs _
    simp [aOpsD] at hs
    obtain ⟨rfl, rfl, rfl⟩ := hs
    exact ⟨fun _ => env, fun _ => h, rfl, rfl, rfl, rfl, rfl, fun j o ho => by simp at ho⟩
  | cons o rest ih =>
    intro k env h env' h' ts hs hk
    have hk' : ∀ j : Nat, rest[j]? = ops[k + 1 + j]? := fun j => by
      have := hk (j + 1)
      simpa [Nat.add_assoc, Nat.add_comm 1 j] using this
    have glue : ∀ (env1 : Env) (h1 : Heap) (ts1 : List (Option (List Nat))) (t0 : Option (List Nat)) (b : Bool) (v : AV), aOpsD P pol K I f ops.toList rest env1 h1 = some (env', h', ts1) → ts = t0 :: ts1 → guardOk ops.toList env o.guard = some b →
        env1 = put env o.dst v → h.length ≤ h1.length → ((b = true ∧ StepKind P pol K I f o (evalOperand pol env) h v h1 ∧ t0 = touchN (touch0 pol f (evalOperand pol env) o) h h1) ∨ (b = false ∧ v = .t (.sc undef) ∧ h1 = h ∧ t0 = some [])) →
        ∃ (E : Nat → Env) (H : Nat → Heap), E 0 = env ∧ H 0 = h ∧ E (o :: rest).length = env' ∧ H (o :: rest).length = h' ∧ ts.length = (o :: rest).length ∧
      ∀ (j : Nat) o', (o :: rest)[j]? = some o' → ∃ b v, guardOk ops.toList (E j) o'.guard = some b ∧ E (j + 1) = put (E j) o'.dst v ∧ (H j).length ≤ (H (j + 1)).length ∧
    ((b = true ∧ StepKind P pol K I f o' (evalOperand pol (E j)) (H j) v (H (j + 1)) ∧ ts.getD j none = touchN (touch0 pol f (evalOperand pol (E j)) o') (H j) (H (j + 1))) ∨
     (b = false ∧ v = .t (.sc undef) ∧ H (j + 1) = H j ∧ ts.getD j none = some [])) := by
      intro env1 h1 ts1 t0 b v hr ht hg he hl hc
      obtain ⟨E, H, e1, e2, e3, e4, e5, e6⟩ := ih (k + 1) env1 h1 env' h' ts1 hr hk'
      refine ⟨fun j => match j with | 0 => env | j + 1 => E j, fun j => match j with | 0 => h | j + 1 => H j, rfl, rfl, e3, e4, by simp [ht, e5], fun j o' ho' => ?_⟩
      cases j with
      | zero =>
        simp at ho'
        subst ho'
        refine ⟨b, v, hg, by simp only [e1, he], by simp only [e2]; exact hl, ?_⟩
        simp only [e2, ht]
        exact hc
      | succ j =>
        have := e6 j o' (by simpa using ho')
        simp only [ht]
        exact this
    simp only [aOpsD] at hs
    split at hs
    · rename_i b hb
      split at hs
      · rename_i hbt
        subst hbt
        split at hs
        · rename_i env1 h1 hstep
          split at hs
          · simp at hs
          · rename_i hlen
            split at hs
            · rename_i env2 h2 ts2 hrest
              simp at hs
              obtain ⟨rfl, rfl, rfl⟩ := hs
              obtain ⟨v, hv1, hv2⟩ := step1_kind hstep
              exact glue env1 h1 ts2 _ true v hrest rfl hb hv1 (by omega) (.inl ⟨rfl, hv2, rfl⟩)
            · simp at hs
        · simp at hs
      · rename_i hbf
        have hbf : b = false := by simpa using hbf
        subst hbf
        split at hs
        · rename_i env2 h2 ts2 hrest
          simp at hs
          obtain ⟨rfl, rfl, rfl⟩ := hs
          exact glue _ h ts2 _ false _ hrest rfl hb rfl (Nat.le_refl _) (.inr ⟨rfl, rfl, rfl, rfl⟩)
        · simp at hs
    · simp at hs

theorem trace_ops {env env' : Env} {h h' : Heap} {ts : List (Option (List Nat))} (hs : aOpsD P pol K I f ops.toList ops.toList env h = some (env', h', ts)) :
    ∃ (E : Nat → Env) (H : Nat → Heap), E 0 = env ∧ H 0 = h ∧ E ops.size = env' ∧ H ops.size = h' ∧ Trace P pol K I f ops E H (fun j => ts.getD j none) := by
  obtain ⟨E, H, e1, e2, e3, e4, _, e6⟩ := trace_of ops.toList 0 env h env' h' ts hs (fun j => by simp)
  exact ⟨E, H, e1, e2, by simpa using e3, by simpa using e4, ⟨fun j o ho => e6 j o (by simpa using ho)⟩⟩

section
variable {E : Nat → Env} {H : Nat → Heap} {τ : Nat → Option (List Nat)} (tr : Trace P pol K I f ops E H τ)

/-- Operation i may change object q. -/
def Chg (ops : Array Oper) (τ : Nat → Option (List Nat)) (i q : Nat) : Prop := ∃ o, ops[i]? = some o ∧ (kindOf o.op).quiet = false ∧ (τ i = none ∨ ∃ l, τ i = some l ∧ q ∈ l)

include tr

theorem Trace.len (i j : Nat) (hij : i ≤ j) (hj : j ≤ ops.size) : (H i).length ≤ (H j).length := by
  induction j with
  | zero => have : i = 0 := by omega
            subst this; exact Nat.le_refl _
  | succ j ih =>
    by_cases h : i = j + 1
    · subst h; exact Nat.le_refl _
    · have hlt : j < ops.size := by omega
      obtain ⟨b, v, _, _, hl, _⟩ := tr.step j ops[j] (by simp [hlt])
      exact Nat.le_trans (ih (by omega) (by omega)) hl

theorem Trace.envLen (j : Nat) (hj : j ≤ ops.size) : (E j).length = (E 0).length := by
  induction j with
  | zero => rfl
  | succ j ih =>
    have hlt : j < ops.size := by omega
    obtain ⟨b, v, _, he, _⟩ := tr.step j ops[j] (by simp [hlt])
    rw [he]
    have : ∀ (env : Env) (d : Option Tmp), (put env d v).length = env.length := by intro env d; cases d <;> simp [put]
    rw [this, ih (by omega)]

/-- A temporary that nobody between writes. -/
theorem Trace.envSame {k j t : Nat} (hkj : k ≤ j) (hj : j ≤ ops.size) (hn : ∀ i, k ≤ i → i < j → dstAt ops i ≠ some t) : (E j)[t]? = (E k)[t]? := by
  induction j with
  | zero => have : k = 0 := by omega
            subst this; rfl
  | succ j ih =>
    by_cases h : k = j + 1
    · subst h; rfl
    · have hlt : j < ops.size := by omega
      have ho : ops[j]? = some ops[j] := by simp [hlt]
      obtain ⟨b, v, _, he, _⟩ := tr.step j ops[j] ho
      rw [he, ← ih (by omega) (by omega) (fun i h1 h2 => hn i h1 (by omega))]
      have hd := hn j (by omega) (by omega)
      simp only [dstAt, ho, Option.bind_some] at hd
      cases hdst : ops[j].dst with
      | none => rfl
      | some d =>
        rw [hdst] at hd
        simp only [put]
        rw [List.getElem?_set_ne (fun e => hd (by rw [e]))]

/-- What a step leaves. -/
theorem Trace.frame {j q : Nat} {o : Oper} (ho : ops[j]? = some o) (hn : ¬ Chg ops τ j q) : (H (j + 1))[q]? = (H j)[q]? := by
  obtain ⟨b, v, _, _, hl, hcase⟩ := tr.step j o ho
  rcases hcase with ⟨_, hk, ht⟩ | ⟨_, _, hH, _⟩
  · cases hk with
    | pure g args ts r ha ht0 hts hr hv hh => rw [hh]
    | full g args ha ht0 hc =>
      exfalso
      obtain ⟨c, x, hop, hcal, _⟩ := aOp_call ha
      exact hn ⟨o, ho, by simp [kindOf, hop, hcal, Kind.quiet], .inl (by rw [ht, ht0]; rfl)⟩
    | plain r ha hv =>
      obtain ⟨l, h1, h2, h3, _⟩ := aOp_frame ha hv
      by_cases hq : (kindOf o.op).quiet = true
      · rw [h3 hq]
      · have hq' : (kindOf o.op).quiet = false := by simpa using hq
        rw [h1] at ht
        have hnl : q ∉ l ++ List.range' (H j).length ((H (j + 1)).length - (H j).length) := fun hm => hn ⟨o, ho, hq', .inr ⟨_, ht, hm⟩⟩
        by_cases hlt : q < (H j).length
        · exact h2.2 q hlt (fun hm => hnl (by simp [hm]))
        · have : ¬ q < (H (j + 1)).length := fun hlt' => hnl (by simp [List.mem_range'_1]; omega)
          rw [List.getElem?_eq_none (by omega), List.getElem?_eq_none (by omega)]
  · rw [hH]

theorem Trace.heapSame {k j q : Nat} (hkj : k ≤ j) (hj : j ≤ ops.size) (hn : ∀ i, k ≤ i → i < j → ¬ Chg ops τ i q) : (H j)[q]? = (H k)[q]? := by
  induction j with
  | zero => have : k = 0 := by omega
            subst this; rfl
  | succ j ih =>
    by_cases h : k = j + 1
    · subst h; rfl
    · have hlt : j < ops.size := by omega
      have ho : ops[j]? = some ops[j] := by simp [hlt]
      rw [tr.frame ho (hn j (by omega) (by omega)), ih (by omega) (by omega) (fun i h1 h2 => hn i h1 (by omega))]

/-- New objects are named. -/
theorem Trace.news {j q : Nat} {o : Oper} (ho : ops[j]? = some o) (h1 : (H j).length ≤ q) (h2 : q < (H (j + 1)).length) : Chg ops τ j q := by
  obtain ⟨b, v, _, _, hl, hcase⟩ := tr.step j o ho
  rcases hcase with ⟨_, hk, ht⟩ | ⟨_, _, hH, _⟩
  · cases hk with
    | pure g args ts r ha ht0 hts hr hv hh => rw [hh] at h2; omega
    | full g args ha ht0 hc =>
      obtain ⟨c, x, hop, hcal, _⟩ := aOp_call ha
      exact ⟨o, ho, by simp [kindOf, hop, hcal, Kind.quiet], .inl (by rw [ht, ht0]; rfl)⟩
    | plain r ha hv =>
      obtain ⟨l, q1, q2, q3, _⟩ := aOp_frame ha hv
      by_cases hq : (kindOf o.op).quiet = true
      · rw [q3 hq] at h2; omega
      · rw [q1] at ht
        exact ⟨o, ho, by simpa using hq, .inr ⟨_, ht, by simp [List.mem_range'_1]; omega⟩⟩
  · rw [hH] at h2; omega

end

end Go.Abs

/- Regions that draw their order: whatever order is drawn, the machine comes to where the order of the text leads. -/
namespace Go.Abs
open Go

variable {P : Program} {pol : Pol} {K : Oracle} {I : Inl} {f : FuncId} {ops : Array Oper} {crit : List (Nat × Nat)} {E : Nat → Env} {H : Nat → Heap} {τ : Nat → Option (List Nat)} {S : Nat → Prop}

/-- Operation i touches object q. -/
def Tch (τ : Nat → Option (List Nat)) (i q : Nat) : Prop := τ i = none ∨ ∃ l, τ i = some l ∧ q ∈ l

theorem Chg.tch {i q : Nat} (h : Chg ops τ i q) : Tch τ i q := let ⟨_, _, _, h3⟩ := h; h3

theorem apart_no {s t : Option (List Nat)} {q : Nat} (ha : apartB s t = true) (hs : s = none ∨ ∃ l, s = some l ∧ q ∈ l) (ht : t = none ∨ ∃ l, t = some l ∧ q ∈ l) : False := by
  rcases hs with rfl | ⟨a, rfl, ha'⟩
  · rcases ht with rfl | ⟨b, rfl, hb'⟩
    · simp [apartB] at ha
    · cases b with
      | nil => simp at hb'
      | cons x b => simp [apartB] at ha
  · cases a with
    | nil => simp at ha'
    | cons x a =>
      rcases ht with rfl | ⟨b, rfl, hb'⟩
      · simp [apartB] at ha
      · cases b with
        | nil => simp at hb'
        | cons y b =>
          simp only [apartB, List.all_eq_true] at ha
          have := ha q ha'
          simp [hb'] at this

theorem clash_symm (x y : Kind) : x.clash y = y.clash x := by cases x <;> cases y <;> rfl

theorem exists_last (p : Nat → Prop) (n : Nat) : ∃ k, k ≤ n ∧ (∀ i, i < n → p i → i < k) ∧ (k = 0 ∨ ∃ i, k = i + 1 ∧ p i) := by
  induction n with
  | zero => exact ⟨0, Nat.le_refl _, fun i hi => by omega, .inl rfl⟩
  | succ n ih =>
    obtain ⟨k, h1, h2, h3⟩ := ih
    by_cases hp : p n
    · exact ⟨n + 1, Nat.le_refl _, fun i hi _ => hi, .inr ⟨n, rfl, hp⟩⟩
    · refine ⟨k, by omega, fun i hi hpi => ?_, h3⟩
      by_cases h : i = n
      · subst h; exact absurd hpi hp
      · exact h2 i (by omega) hpi

/-- The last one that has run and does p ends at k. -/
def Last (S p : Nat → Prop) (k : Nat) : Prop := (∀ i, S i → p i → i < k) ∧ (k = 0 ∨ ∃ i, k = i + 1 ∧ S i ∧ p i)

theorem Last.exists (hS : ∀ i, S i → i < ops.size) (p : Nat → Prop) : ∃ k, Last S p k := by
  obtain ⟨k, _, h2, h3⟩ := exists_last (fun i => S i ∧ p i) ops.size
  exact ⟨k, fun i hs hp => h2 i (hS i hs) ⟨hs, hp⟩, h3⟩

/-- What has been made so far. -/
def Real (H : Nat → Heap) (S : Nat → Prop) (q : Nat) : Prop := q < (H 0).length ∨ ∃ i, S i ∧ (H i).length ≤ q ∧ q < (H (i + 1)).length

theorem exists_new {j q : Nat} (hq : q < (H j).length) : q < (H 0).length ∨ ∃ i, i < j ∧ (H i).length ≤ q ∧ q < (H (i + 1)).length := by
  induction j with
  | zero => exact .inl hq
  | succ j ih =>
    by_cases h : q < (H j).length
    · rcases ih h with h | ⟨i, h1, h2⟩
      · exact .inl h
      · exact .inr ⟨i, by omega, h2⟩
    · exact .inr ⟨j, by omega, by omega, hq⟩

section
variable (tr : Trace P pol K I f ops E H τ)
include tr

theorem Trace.quietN {j : Nat} {o : Oper} (ho : ops[j]? = some o) (hk : kindOf o.op = .n) {q : Nat} : ¬ Tch τ j q := by
  obtain ⟨b, v, _, _, hl, hcase⟩ := tr.step j o ho
  have no : τ j = some [] → ¬ Tch τ j q := by
    rintro h (h' | ⟨l, h', hq⟩)
    · rw [h] at h'; cases h'
    · rw [h] at h'; cases h'; cases hq
  rcases hcase with ⟨_, hkk, ht⟩ | ⟨_, _, hH, ht⟩
  · cases hkk with
    | pure g args ts r ha ht0 hts hr hv hh => obtain ⟨c, x, hop, hcal, _⟩ := aOp_call ha; simp [kindOf, hop, hcal] at hk
    | full g args ha ht0 hc => obtain ⟨c, x, hop, hcal, _⟩ := aOp_call ha; simp [kindOf, hop, hcal] at hk
    | plain r ha hv =>
      obtain ⟨l, q1, q2, q3, q4, _⟩ := aOp_frame ha hv
      rw [q1, q3 (by rw [hk]; rfl), q4 hk] at ht
      exact no (by simpa [touchN] using ht)
  · exact no ht

theorem Trace.newsA {j : Nat} {o : Oper} (ho : ops[j]? = some o) (hk : kindOf o.op = .a) {q : Nat} (hq : Tch τ j q) : (H j).length ≤ q ∧ q < (H (j + 1)).length := by
  obtain ⟨b, v, _, _, hl, hcase⟩ := tr.step j o ho
  rcases hcase with ⟨_, hkk, ht⟩ | ⟨_, _, hH, ht⟩
  · cases hkk with
    | pure g args ts r ha ht0 hts hr hv hh => obtain ⟨c, x, hop, hcal, _⟩ := aOp_call ha; simp [kindOf, hop, hcal] at hk
    | full g args ha ht0 hc => obtain ⟨c, x, hop, hcal, _⟩ := aOp_call ha; simp [kindOf, hop, hcal] at hk
    | plain r ha hv =>
      obtain ⟨l, q1, q2, q3, q4, q5⟩ := aOp_frame ha hv
      rw [q1, q5 hk] at ht
      rcases hq with h | ⟨l', h, hm⟩
      · rw [ht] at h; cases h
      · rw [ht] at h
        simp [touchN] at h
        subst h
        simp [List.mem_range'_1] at hm
        omega
  · rcases hq with h | ⟨l', h, hm⟩
    · rw [ht] at h; cases h
    · rw [ht] at h; cases h; cases hm

end

/-- The ground on which a drawn order is walked. -/
structure Ground (P : Program) (pol : Pol) (K : Oracle) (I : Inl) (f : FuncId) (ops : Array Oper) (crit : List (Nat × Nat)) (E : Nat → Env) (H : Nat → Heap) (τ : Nat → Option (List Nat)) : Prop where
  tr : Trace P pol K I f ops E H τ
  ok : RegOk crit ops
  apart : ∀ i j, (i, j) ∈ crit → apartB (τ i) (τ j) = true

/-- Where the order stands: S has run, whole with what it waits for; j is next. -/
structure At (ops : Array Oper) (S : Nat → Prop) (j : Nat) (o : Oper) : Prop where
  lt : ∀ i, S i → i < ops.size
  ho : ops[j]? = some o
  no : ¬ S j
  dc : ∀ i k, S k → Bef ops i k → S i
  dep : ∀ i, Bef ops i j → S i

section
variable {j : Nat} {o : Oper} (G : Ground P pol K I f ops crit E H τ) (A : At ops S j o)
include G A

/-- Who changes what j touches has run if and only if it stands ahead of j. -/
theorem At.order {i q : Nat} (hc : Chg ops τ i q) (ht : Tch τ j q) (hij : i ≠ j) : S i ↔ i < j := by
  have hct := hc.tch
  obtain ⟨p, hp, hnq, _⟩ := hc
  have hclash : (kindOf p.op).clash (kindOf o.op) = true := by
    cases hkj : kindOf o.op with
    | n => exact absurd ht (G.tr.quietN A.ho hkj)
    | r => cases hki : kindOf p.op <;> simp [hki, Kind.quiet] at hnq <;> rfl
    | w => cases hki : kindOf p.op <;> simp [hki, Kind.quiet] at hnq <;> rfl
    | a =>
      cases hki : kindOf p.op with
      | n => simp [hki, Kind.quiet] at hnq
      | r => simp [hki, Kind.quiet] at hnq
      | w => rfl
      | a =>
        exfalso
        have h1 := G.tr.newsA hp hki hct
        have h2 := G.tr.newsA A.ho hkj ht
        have hi := lt_of_ops hp
        have hj := lt_of_ops A.ho
        by_cases h : i < j
        · have := G.tr.len (i + 1) j (by omega) (by omega); omega
        · have := G.tr.len (j + 1) i (by omega) (by omega); omega
  by_cases h : i < j
  · refine ⟨fun _ => h, fun _ => ?_⟩
    rcases G.ok.cover i j p o hp A.ho h hclash with hb | hm
    · exact A.dep i hb
    · exact (apart_no (G.apart i j hm) hct ht).elim
  · refine ⟨fun hs => ?_, fun h' => absurd h' h⟩
    rcases G.ok.cover j i o p A.ho hp (by omega) (by rw [clash_symm]; exact hclash) with hb | hm
    · exact absurd (A.dc j i hs hb) A.no
    · exact (apart_no (G.apart j i hm) ht hct).elim

theorem At.heap {q k : Nat} (ht : Tch τ j q) (hl : Last S (fun i => Chg ops τ i q) k) : (H j)[q]? = (H k)[q]? := by
  have hj := lt_of_ops A.ho
  have hk : k ≤ j := by
    rcases hl.2 with h | ⟨i, rfl, hs, hc⟩
    · omega
    · exact (A.order G hc ht (fun e => A.no (e ▸ hs))).1 hs
  exact G.tr.heapSame hk (by omega) fun i h1 h2 hc => by
    have := hl.1 i ((A.order G hc ht (by omega)).2 h2) hc
    omega

theorem At.real {q : Nat} (ht : Tch τ j q) (hq : q < (H j).length) : Real H S q := by
  rcases exists_new hq with h | ⟨i, h1, h2, h3⟩
  · exact .inl h
  · have hi : i < ops.size := by have := lt_of_ops A.ho; omega
    have hc := G.tr.news (o := ops[i]) (by simp [hi]) h2 h3
    exact .inr ⟨i, (A.order G hc ht (by omega)).2 h1, h2, h3⟩

theorem At.writer {i t : Nat} (hd : dstAt ops i = some t) (hn : t ∈ namesOf ops o) (hij : i ≠ j) : S i ↔ i < j := by
  rcases G.ok.temps i j o t A.ho hij hd hn with ⟨h, hb⟩ | ⟨h, hb⟩
  · exact ⟨fun _ => h, fun _ => A.dep i hb⟩
  · exact ⟨fun hs => absurd (A.dc j i hs hb) A.no, fun h' => by omega⟩

theorem At.env {t k : Nat} (hn : t ∈ namesOf ops o) (hl : Last S (fun i => dstAt ops i = some t) k) : (E j)[t]? = (E k)[t]? := by
  have hj := lt_of_ops A.ho
  have hk : k ≤ j := by
    rcases hl.2 with h | ⟨i, rfl, hs, hc⟩
    · omega
    · exact (A.writer G hc hn (fun e => A.no (e ▸ hs))).1 hs
  exact G.tr.envSame hk (by omega) fun i h1 h2 hc => by
    have := hl.1 i ((A.writer G hc hn (by omega)).2 h2) hc
    omega

/-- New objects of j are not there yet. -/
theorem At.fresh {q : Nat} (h1 : (H j).length ≤ q) (h2 : q < (H (j + 1)).length) : ¬ Real H S q := by
  have hj := lt_of_ops A.ho
  rintro (h | ⟨i, hs, h3, h4⟩)
  · have := G.tr.len 0 j (by omega) (by omega); omega
  · have hi := A.lt i hs
    have hij : i ≠ j := fun e => A.no (e ▸ hs)
    by_cases h : i < j
    · have := G.tr.len (i + 1) j (by omega) (by omega); omega
    · have := G.tr.len (j + 1) i (by omega) (by omega); omega

end

end Go.Abs

/- The walk along a drawn order, and what a program's check then gives. -/
namespace Go.Abs
open Go

variable {P : Program} {pol : Pol} {K : Oracle} {I : Inl} {f : FuncId} {ops : Array Oper} {crit : List (Nat × Nat)} {E : Nat → Env} {H : Nat → Heap} {τ : Nat → Option (List Nat)} {S : Nat → Prop}
  {Z : Base} {D D' : Dom} {β β' : Bet} {w w' : World} {ro : Option Nat} {M : Nat}

theorem Last.unique {p : Nat → Prop} {k k' : Nat} (h : Last S p k) (h' : Last S p k') : k = k' := by
  have key : ∀ {k k' : Nat}, Last S p k → Last S p k' → k ≤ k' := by
    intro k k' h h'
    rcases h.2 with e | ⟨i, e, hs, hp⟩
    · omega
    · have := h'.1 i hs hp; omega
  exact Nat.le_antisymm (key h h') (key h' h)

/-- One more has run, and it does not do p. -/
theorem Last.back {p : Nat → Prop} {j k : Nat} (hn : ¬ p j) (h : Last (fun i => S i ∨ i = j) p k) : Last S p k := by
  refine ⟨fun i hs hp => h.1 i (.inl hs) hp, ?_⟩
  rcases h.2 with e | ⟨i, e, hs, hp⟩
  · exact .inl e
  · rcases hs with hs | rfl
    · exact .inr ⟨i, e, hs, hp⟩
    · exact absurd hp hn

/-- One more has run that does p, and nothing behind it has. -/
theorem Last.now {p : Nat → Prop} {j k : Nat} (hp : p j) (ho : ∀ i, S i → p i → i < j) (h : Last (fun i => S i ∨ i = j) p k) : k = j + 1 := by
  have h1 := h.1 j (.inr rfl) hp
  rcases h.2 with e | ⟨i, e, hs, hpi⟩
  · omega
  · rcases hs with hs | rfl
    · have := ho i hs hpi; omega
    · exact e

/-- Where the machine stands when S has run. -/
structure Mid [Cp] (pol : Pol) (Z : Base) (M : Nat) (ops : Array Oper) (E : Nat → Env) (H : Nat → Heap) (τ : Nat → Option (List Nat)) (S : Nat → Prop) (D : Dom) (β : Bet) (w : World) (ro : Option Nat) (a : Act) : Prop where
  g : GInv Z D β w
  glob : GlobOk pol D w
  marks : Marks M w a.defers
  round : ∀ l, ro = some l → ∃ L, w.heap[l]? = some (.loop L)
  size : a.tmps.size = (E 0).length
  env : ∀ (t : Nat) v x k, Last S (fun i => dstAt ops i = some t) k → a.tmps[t]? = some v → (E k)[t]? = some x → Rep D β w v x
  obj : ∀ (q : Nat) x k, Real H S q → Last S (fun i => Chg ops τ i q) k → (H k)[q]? = some x → ObjOk D β w q x
  dom : ∀ q e y, β q e = some y → Real H S q

/-- The environment as one operation sees it. -/
def maskE (ops : Array Oper) (o : Oper) (env : Env) : Env := env.mapIdx fun t x => if (namesOf ops o).contains t then x else .dead

theorem maskE_get {o : Oper} {env : Env} {t : Nat} (ht : t ∈ namesOf ops o) : (maskE ops o env)[t]? = env[t]? := by
  simp [maskE, List.getElem?_mapIdx, ht]

theorem maskE_eval {o : Oper} {env : Env} {x : Operand} (hx : x ∈ o.op.operands) : evalOperand pol (maskE ops o env) x = evalOperand pol env x := by
  cases x with
  | tmp t =>
    have ht : t ∈ namesOf ops o := by
      simp only [namesOf, List.mem_append, List.mem_filterMap]
      exact .inl (.inr ⟨.tmp t, by simpa using hx, rfl⟩)
    simp only [evalOperand, List.getD_eq_getElem?_getD, maskE_get ht]
  | const v => rfl
  | global g => rfl
  | func g => rfl

theorem maskE_guard {o : Oper} {env : Env} : guardOk ops.toList (maskE ops o env) o.guard = guardOk ops.toList env o.guard := by
  cases hg : o.guard with
  | none => rfl
  | some jw =>
    obtain ⟨g, want⟩ := jw
    simp only [guardOk, Array.getElem?_toList]
    cases ho : ops[g]? with
    | none => rfl
    | some o' =>
      simp only
      cases hd : o'.dst with
      | none => rfl
      | some d =>
        simp only
        have ht : d ∈ namesOf ops o := by
          simp only [namesOf, List.mem_append, hg]
          exact .inr (by simp [dstAt, ho, hd])
        simp only [List.getD_eq_getElem?_getD, maskE_get ht]

theorem put_get_ne {env : Env} {d : Option Tmp} {x : AV} {t : Nat} (h : d ≠ some t) : (put env d x)[t]? = env[t]? := by
  cases d with
  | none => rfl
  | some d => exact List.getElem?_set_ne (fun e => h (by rw [e]))

section
variable [Cp] {j : Nat} {o : Oper} {a : Act} (G : Ground P pol K I f ops crit E H τ) (A : At ops S j o) (m : Mid pol Z M ops E H τ S D β w ro a)
include G A m

theorem Mid.envRep : EnvRep D β w a.tmps (maskE ops o (E j)) := by
  have hj := lt_of_ops A.ho
  refine ⟨by simp [maskE, m.size, G.tr.envLen j (by omega)], fun t v x hv hx => ?_⟩
  by_cases ht : t ∈ namesOf ops o
  · rw [maskE_get ht] at hx
    obtain ⟨k, hk⟩ := Last.exists A.lt (fun i => dstAt ops i = some t)
    rw [A.env G ht hk] at hx
    exact m.env t v x k hk hv hx
  · simp only [maskE, List.getElem?_mapIdx, Option.map_eq_some_iff] at hx
    obtain ⟨y, _, rfl⟩ := hx
    simp [ht]
    exact .dead v

theorem Mid.rep (x : Operand) : Rep D β w (a.eval x) (evalOperand pol (maskE ops o (E j)) x) := eval_rep (m.envRep G A) m.glob x

theorem Mid.objAt {q : Nat} {x : AObj} (ht : Tch τ j q) (hx : (H j)[q]? = some x) : ObjOk D β w q x := by
  obtain ⟨k, hk⟩ := Last.exists A.lt (fun i => Chg ops τ i q)
  have hq : q < (H j).length := (List.getElem?_eq_some_iff.1 hx).1
  rw [A.heap G ht hk] at hx
  exact m.obj q x k (A.real G ht hq) hk hx

/-- On: j has run. -/
theorem Mid.next {v : Value} {x : AV} (hx : Ext D β w D' β' w') (hg : GInv Z D' β' w') (he : E (j + 1) = put (E j) o.dst x) (hr : Rep D' β' w' v x)
    (hold : ∀ (q : Nat) y k, Real H S q → ¬ Chg ops τ j q → Last S (fun i => Chg ops τ i q) k → (H k)[q]? = some y → ObjOk D β w q y → ObjOk D' β' w' q y)
    (hnew : ∀ (q : Nat) y, Chg ops τ j q → (H (j + 1))[q]? = some y → ObjOk D' β' w' q y)
    (hdom : ∀ q e y, β' q e = some y → Real H (fun i => S i ∨ i = j) q) : Mid pol Z M ops E H τ (fun i => S i ∨ i = j) D' β' w' ro (a.put o.dst v) where
  g := hg
  glob := m.glob.mono hx
  marks := by rw [put_defers]; exact m.marks.mono hx
  round l hl := let ⟨L, hL⟩ := m.round l hl; hx.loops l L hL
  size := by
    rw [← m.size]
    cases o.dst <;> simp [Act.put]
  env t u y k hk hu hy := by
    by_cases hd : dstAt ops j = some t
    · have hkj : k = j + 1 := by
        refine Last.now (p := fun i => dstAt ops i = some t) hd (fun i hs hp => ?_) hk
        have ht : t ∈ namesOf ops o := by
          simp only [dstAt, A.ho, Option.bind_some] at hd
          simp [namesOf, hd]
        exact (A.writer G hp ht (fun e => A.no (e ▸ hs))).1 hs
      subst hkj
      simp only [dstAt, A.ho, Option.bind_some] at hd
      rw [he, hd] at hy
      rw [hd] at hu
      simp only [put, List.getElem?_set_self'] at hy
      simp only [Act.put, Array.getElem?_setIfInBounds_self] at hu
      split at hu
      · cases hu
        cases hy' : (E j)[t]? with
        | none => rw [hy'] at hy; simp at hy
        | some z => rw [hy'] at hy; simp at hy; subst hy; exact hr
      · cases hu
    · have hk' := Last.back hd hk
      have hd' : o.dst ≠ some t := by simpa [dstAt, A.ho] using hd
      have hu' : a.tmps[t]? = some u := by
        cases hdst : o.dst with
        | none => rw [hdst] at hu; exact hu
        | some d =>
          rw [hdst] at hu hd'
          simp only [Act.put] at hu
          rwa [Array.getElem?_setIfInBounds_ne (fun e => hd' (by rw [e]))] at hu
      exact (m.env t u y k hk' hu' hy).mono hx
  obj q y k hq hk hy := by
    by_cases hc : Chg ops τ j q
    · have hkj : k = j + 1 := by
        refine Last.now (p := fun i => Chg ops τ i q) hc (fun i hs hp => ?_) hk
        exact (A.order G hp hc.tch (fun e => A.no (e ▸ hs))).1 hs
      subst hkj
      exact hnew q y hc hy
    · have hq' : Real H S q := by
        rcases hq with h | ⟨i, hs, h1, h2⟩
        · exact .inl h
        · rcases hs with hs | rfl
          · exact .inr ⟨i, hs, h1, h2⟩
          · exact absurd (G.tr.news A.ho h1 h2) hc
      have hk' := Last.back (p := fun i => Chg ops τ i q) hc hk
      exact hold q y k hq' hc hk' hy (m.obj q y k hq' hk' hy)
  dom := hdom

end

theorem Real.mono {S' : Nat → Prop} {q : Nat} (hs : ∀ i, S i → S' i) (h : Real H S q) : Real H S' q := by
  rcases h with h | ⟨i, h1, h2⟩
  · exact .inl h
  · exact .inr ⟨i, hs i h1, h2⟩

theorem ops_draw [Cp] (hK : KOk P pol K) (hI : IOk P pol I) (G : Ground P pol K I f ops crit E H τ) {Q : Exit → Act → World → Prop} {D0 : Dom} {β0 : Bet} {w0 : World}
    (hn : ∀ D' β' w' a', St pol Z M D' β' (H ops.size) w' ro a' (E ops.size) → Ext D0 β0 w0 D' β' w' → Q .normal a' w') :
    ∀ (l : List Nat) (S : Nat → Prop) (D : Dom) (β : Bet) (w : World) (a : Act), Valid ops S l → (∀ i, S i → i < ops.size) → (∀ i k, S k → Bef ops i k → S i) → Mid pol Z M ops E H τ S D β w ro a → Ext D0 β0 w0 D β w →
      wpOpsIn (FW ro) 0 P ops Q l a w := by
  intro l
  induction l with
  | nil =>
    intro S D β w a hv hlt hdc m hx
    refine hn D β w a ⟨⟨m.g, fun q x hq => ?_, fun q e y hy => ?_⟩, ⟨by rw [m.size, G.tr.envLen _ (Nat.le_refl _)], fun t v x hv' hx' => ?_⟩, m.glob, m.marks, m.round⟩ hx
    · obtain ⟨k, hk⟩ := Last.exists hlt (fun i => Chg ops τ i q)
      have hkl : k ≤ ops.size := by
        rcases hk.2 with e | ⟨i, e, hs, _⟩
        · omega
        · have := hlt i hs; omega
      have hq' : (H k)[q]? = some x := by
        rw [← hq]
        refine (G.tr.heapSame hkl (Nat.le_refl _) fun i h1 h2 hc => ?_).symm
        have := hk.1 i (hv i h2) hc
        omega
      refine m.obj q x k ?_ hk hq'
      rcases exists_new (List.getElem?_eq_some_iff.1 hq).1 with h | ⟨i, h1, h2⟩
      · exact .inl h
      · exact .inr ⟨i, hv i h1, h2⟩
    · rcases m.dom q e y hy with h | ⟨i, hs, h1, h2⟩
      · exact Nat.lt_of_lt_of_le h (G.tr.len 0 _ (by omega) (Nat.le_refl _))
      · exact Nat.lt_of_lt_of_le h2 (G.tr.len _ _ (hlt i hs) (Nat.le_refl _))
    · obtain ⟨k, hk⟩ := Last.exists hlt (fun i => dstAt ops i = some t)
      have hkl : k ≤ ops.size := by
        rcases hk.2 with e | ⟨i, e, hs, _⟩
        · omega
        · have := hlt i hs; omega
      refine m.env t v x k hk hv' ?_
      rw [← hx']
      refine (G.tr.envSame hkl (Nat.le_refl _) fun i h1 h2 hc => ?_).symm
      have := hk.1 i (hv i h2) hc
      omega
  | cons j l ih =>
    intro S D β w a hv hlt hdc m hx
    obtain ⟨hnj, ⟨o, ho, hdep⟩, hv'⟩ := hv
    have A : At ops S j o := ⟨hlt, ho, hnj, hdc, fun i hb => by
      cases hb with
      | edge _ o' e ho' he hbd => rw [ho] at ho'; cases ho'; exact hdep e he hbd
      | trans _ _ o' e ho' he hbd h => rw [ho] at ho'; cases ho'; exact hdc _ _ (hdep e he hbd) h⟩
    have hlt' : ∀ i, (S i ∨ i = j) → i < ops.size := by
      rintro i (h | rfl)
      · exact hlt i h
      · exact lt_of_ops ho
    have hdc' : ∀ i k, (S k ∨ k = j) → Bef ops i k → (S i ∨ i = j) := by
      rintro i k (h | rfl) hb
      · exact .inl (hdc i k h hb)
      · exact .inl (A.dep i hb)
    have go : ∀ {D' : Dom} {β' : Bet} {w' : World} {a' : Act}, Mid pol Z M ops E H τ (fun i => S i ∨ i = j) D' β' w' ro a' → Ext D β w D' β' w' → wpOpsIn (FW ro) 0 P ops Q l a' w' :=
      fun m' x' => ih _ _ _ _ _ hv' hlt' hdc' m' (hx.trans x')
    obtain ⟨b, v, hgd, hE, hlen, hcase⟩ := G.tr.step j o ho
    have hE' : EnvRep D β w a.tmps (maskE ops o (E j)) := m.envRep G A
    have hwant := guard_sim (ops := ops) (o := o) rfl (by rw [maskE_guard]; exact hgd) hE'
    have hρ := m.rep G A
    have hcg : ∀ h, aOp P pol f (evalOperand pol (maskE ops o (E j))) h o = aOp P pol f (evalOperand pol (E j)) h o := fun h => aOp_congr fun x hx => maskE_eval hx
    have htg : touch0 pol f (evalOperand pol (maskE ops o (E j))) o = touch0 pol f (evalOperand pol (E j)) o := touch0_congr fun x hx => maskE_eval hx
    simp only [wpOpsIn, ho, hwant]
    -- nothing is changed
    have quiet : ∀ {D' : Dom} {β' : Bet} {w' : World} {v' : Value}, Frm (fun _ => False) D β w D' β' w' → GInv Z D' β' w' → (∀ q, ¬ Chg ops τ j q) → Rep D' β' w' v' v → wpOpsIn (FW ro) 0 P ops Q l (a.put o.dst v') w' := by
      intro D' β' w' v' hf hg hnc hr
      refine go (m.next G A hf.ext hg hE hr (fun q y _ _ _ _ _ hy => hy.frame hf (fun h => h)) (fun q y hc => absurd hc (hnc q)) fun q e y hy => ?_) hf.ext
      rw [hf.bt q e (fun h => h)] at hy
      exact (m.dom q e y hy).mono fun i h => .inl h
    rcases hcase with ⟨rfl, hk, hτ⟩ | ⟨rfl, rfl, hH, hτ⟩
    · simp only [if_true]
      cases hk with
      | pure g args ts r ha ht0 hts hr hvv hh =>
        subst hvv
        refine pure_call hK ((hcg _).trans ha) hts hr m.g.dlt m.glob hρ fun v' w' hkw hv' => ?_
        obtain ⟨hf, hg⟩ := frm_kept (S := fun _ => False) hkw m.g
        refine quiet hf hg (fun q hc => ?_) (.t _ _ hv')
        rcases hc.tch with h | ⟨l', h, hm⟩
        · rw [hτ, ht0] at h; simp [touchN] at h
        · rw [hτ, ht0, hh] at h; simp [touchN] at h; subst h; cases hm
      | plain r ha hvv =>
        obtain ⟨tl, q1, q2, q3, _⟩ := aOp_frame ha hvv
        have hτ' : τ j = some (tl ++ List.range' (H j).length ((H (j + 1)).length - (H j).length)) := by rw [hτ, q1]; rfl
        have tch : ∀ q, q ∈ tl → Tch τ j q := fun q hq => .inr ⟨_, hτ', by simp [hq]⟩
        have hgood := op_good (ρr := a.eval) (Z := Z) (D := D) (β := β) (w := w) ((hcg _).trans ha) hvv m.g hρ (fun q e h1 h2 => by
          cases hb : β q e with
          | none => rfl
          | some y => exact absurd (m.dom q e y hb) (A.fresh G h1 h2)) (fun q y hq hy => by
          rw [htg, q1] at hq
          exact m.objAt G A (tch q hq) hy)
        rw [htg, q1] at hgood
        obtain ⟨hd, hsame, hl⟩ := hgood.parts
        refine wpIn_done (aOp_noDefer ha) hd fun v' w' D' β' hr hf hg hob hdm => ?_
        simp only [Option.getD_some] at hf hob hsame
        refine go (m.next G A hf.ext hg hE hr (fun q y k hq hc hk hyk hy => ?_) (fun q y hc hy => ?_) fun q e y hy => ?_) hf.ext
        · by_cases hs : stepS tl (H j) (H (j + 1)) q
          · -- touched, not changed
            have hqq : (kindOf o.op).quiet = true := by
              cases hqt : (kindOf o.op).quiet with
              | true => rfl
              | false =>
                refine absurd ⟨o, ho, hqt, .inr ⟨_, hτ', ?_⟩⟩ hc
                rcases hs with h | ⟨h1, h2⟩
                · simp [h]
                · simp [List.mem_range'_1]; omega
            have hh := q3 hqq
            have hq' : (H j)[q]? = some y := by
              rcases hs with h | ⟨h1, h2⟩
              · rw [A.heap G (tch q h) hk]; exact hyk
              · rw [hh] at h2; omega
            exact hob q y hs (by rw [hh]; exact hq')
          · exact hy.frame hf hs
        · refine hob q y ?_ hy
          rcases hc.tch with h | ⟨l', h, hm⟩
          · rw [hτ'] at h; cases h
          · rw [hτ'] at h
            cases h
            simp [List.mem_range'_1] at hm
            rcases hm with hm | hm
            · exact .inl hm
            · exact .inr ⟨hm.1, by omega⟩
        · by_cases hs : stepS tl (H j) (H (j + 1)) q
          · rcases hs with h | ⟨h1, h2⟩
            · rcases hdm q e y hy with ⟨e', y', hy'⟩ | h'
              · exact (m.dom q e' y' hy').mono fun i h => .inl h
              · by_cases hql : q < (H j).length
                · exact (A.real G (tch q h) hql).mono fun i h => .inl h
                · exact .inr ⟨j, .inr rfl, by omega, h'⟩
            · exact .inr ⟨j, .inr rfl, h1, h2⟩
          · rw [hf.bt q e hs] at hy
            exact (m.dom q e y hy).mono fun i h => .inl h
      | full g args ha ht0 hc =>
        have hτ' : τ j = none := by rw [hτ, ht0]; rfl
        have tch : ∀ q, Tch τ j q := fun q => .inl hτ'
        obtain ⟨c, x, hop, hcal, _⟩ := aOp_call ha
        have chg : ∀ q, Chg ops τ j q := fun q => ⟨o, ho, by simp [kindOf, hop, hcal, Kind.quiet], .inl hτ'⟩
        have hinv : Inv Z D β (H j) w := ⟨m.g, fun q y hy => m.objAt G A (tch q) hy, fun q e y hy => by
          rcases m.dom q e y hy with h | ⟨i, hs, h1, h2⟩
          · exact Nat.lt_of_lt_of_le h (G.tr.len 0 _ (by omega) (by have := lt_of_ops ho; omega))
          · have hi := hlt i hs
            have hcg := G.tr.news (o := ops[i]) (by simp [hi]) h1 h2
            have hij := (A.order G hcg (tch q) (fun e => hnj (e ▸ hs))).1 hs
            exact Nat.lt_of_lt_of_le h2 (G.tr.len _ _ (by omega) (by have := lt_of_ops ho; omega))⟩
        refine full_call hK hI ((hcg _).trans ha) hc hinv m.glob hρ fun v' w' D' β' hr hi' hx' => ?_
        refine go (m.next G A hx' hi'.g hE hr (fun q y _ _ hnc => absurd (chg q) hnc) (fun q y _ hy => hi'.obj q y hy) fun q e y hy => ?_) hx'
        rcases exists_new (hi'.dom q e y hy) with h | ⟨i, h1, h2, h3⟩
        · exact .inl h
        · by_cases hij : i = j
          · exact .inr ⟨i, .inr hij, h2, h3⟩
          · have hi : i < ops.size := by have := lt_of_ops ho; omega
            have hcg := G.tr.news (o := ops[i]) (by simp [hi]) h2 h3
            exact .inr ⟨i, .inl ((A.order G hcg (tch q) hij).2 (by omega)), h2, h3⟩
    · simp only [Bool.false_eq_true, if_false]
      refine ⟨fun _ _ => trivial, ?_⟩
      refine quiet (.refl D β w) m.g (fun q hc => ?_) undef_rep
      rcases hc.tch with h | ⟨l', h, hm⟩
      · rw [hτ] at h; cases h
      · rw [hτ] at h; cases h; cases hm

theorem drawn_ok [Cp] (hmix : P.follows .mixedOrders = true) (hK : KOk P pol K) (hI : IOk P pol I) : DrawnOk P pol K I regionOk := by
  intro f id ops Z M D β h h' w ro env env' a ts Q hs hc hok hst hn t
  obtain ⟨E, H, rfl, rfl, rfl, rfl, tr⟩ := trace_ops hs
  have hreg := regionOk_ok hok
  rw [hmix]
  have G : Ground P pol K I f ops (pol.crit f id) E H (fun j => ts.getD j none) := ⟨tr, hreg, fun i j hij => by
    have := List.all_eq_true.1 hc (i, j) hij
    exact this⟩
  refine ops_draw hK hI G hn _ (fun _ => False) D β w a (schedule_valid hreg.edges t) (fun _ h => h.elim) (fun _ _ h => h.elim) ?_ (.refl D β w)
  have z : ∀ {p : Nat → Prop} {k : Nat}, Last (fun _ => False) p k → k = 0 := by
    intro p k h
    rcases h.2 with e | ⟨_, _, h, _⟩
    · exact e
    · exact h.elim
  exact ⟨hst.inv.g, hst.glob, hst.marks, hst.round, hst.env.1, fun t v x k hk hv hx => hst.env.2 t v x hv (by rw [z hk] at hx; exact hx), fun q x k _ hk hx => hst.inv.obj q x (by rw [z hk] at hx; exact hx), fun q e y hy => .inl (hst.inv.dom q e y hy)⟩

end Go.Abs

/- One oracle for all: what the evaluator over itself comes to in the end. Its answers are sound, and it is closed under evaluation. -/
namespace Go.Abs
open Go

variable {P : Program} {pol : Pol}

/-- What holds in the end. -/
structure Flt (ι : Type) where
  ev : (ι → Prop) → Prop
  all : ∀ {p : ι → Prop}, (∀ x, p x) → ev p
  mono : ∀ {p q : ι → Prop}, ev p → (∀ x, p x → q x) → ev q
  both : ∀ {p q : ι → Prop}, ev p → ev q → ev (fun x => p x ∧ q x)

section
variable {ι : Type} {E : Flt ι} {K : Oracle} {I : Inl} {K' : ι → Oracle} {I' : ι → Inl} {n : Nat} {n' : ι → Nat} {f : FuncId}

theorem Flt.mono2 {p q r : ι → Prop} (hp : E.ev p) (hq : E.ev q) (h : ∀ x, p x → q x → r x) : E.ev r := E.mono (E.both hp hq) fun x hx => h x hx.1 hx.2

def LimK (E : Flt ι) (K : Oracle) (K' : ι → Oracle) : Prop := ∀ f ts r, K f ts = some r → E.ev fun x => K' x f ts = some r
def LimI (E : Flt ι) (I : Inl) (I' : ι → Inl) : Prop := ∀ g args h y, I g args h = some y → E.ev fun x => I' x g args h = some y

variable (hK : LimK E K K') (hI : LimI E I I') (hn : E.ev fun x => n ≤ n' x)
include hK hI

theorem lim_call {at_ : FuncId} {d : Tmp} {g : Tgt} {args : List AV} {h : Heap} {y : AV × Heap} (hc : aCall pol K I at_ d g args h = some y) : E.ev fun x => aCall pol (K' x) (I' x) at_ d g args h = some y := by
  unfold aCall at hc
  split at hc
  · exact E.mono (hI _ _ _ _ hc) fun x hx => by unfold aCall; exact hx
  · split at hc
    · rename_i hp
      exact E.mono (hI _ _ _ _ hc) fun x hx => by unfold aCall; simp only [hp, if_true]; exact hx
    · rename_i hp
      split at hc
      · rename_i ts hts
        split at hc
        · rename_i r hr
          exact E.mono (hK _ _ _ hr) fun x hx => by unfold aCall; simp only [hp, if_false, hts, hx]; exact hc
        · simp at hc
      · rename_i hts
        split at hc
        · rename_i ts hm
          split at hc
          · rename_i r hr
            exact E.mono (hK _ _ _ hr) fun x hx => by unfold aCall; simp only [hp, if_false, hts, hm, hx]; exact hc
          · simp at hc
        · rename_i hm
          exact E.mono (hI _ _ _ _ hc) fun x hx => by unfold aCall; simp only [hp, if_false, hts, hm]; exact hx

theorem lim_step1 {o : Oper} {env : Env} {h : Heap} {y : Env × Heap} (hs : aStep1 P pol K I f o env h = some y) : E.ev fun x => aStep1 P pol (K' x) (I' x) f o env h = some y := by
  unfold aStep1 at hs
  split at hs
  · rename_i ha
    exact E.all fun x => by unfold aStep1; simp only [ha]; exact hs
  · rename_i ha
    exact E.all fun x => by unfold aStep1; simp only [ha]; exact hs
  · rename_i g args ha
    split at hs
    · rename_i v h2 hc
      exact E.mono (lim_call hK hI hc) fun x hx => by unfold aStep1; simp only [ha, hx]; exact hs
    · simp at hs
  · simp at hs

theorem lim_step {o : Oper} {env : Env} {h : Heap} {y : Env × Heap} (hs : aStep P pol K I f o env h = some y) : E.ev fun x => aStep P pol (K' x) (I' x) f o env h = some y := by
  unfold aStep at hs
  split at hs
  · rename_i hp
    split at hs
    · rename_i e2 h2 hf
      exact E.mono (lim_step1 hK hI hs) fun x hx => by unfold aStep; simp only [hp, if_true, hf]; exact hx
    · simp at hs
  · rename_i hp
    exact E.mono (lim_step1 hK hI hs) fun x hx => by unfold aStep; simp only [hp]; exact hx

theorem lim_ops {ops : List Oper} : ∀ (rest : List Oper) {env : Env} {h : Heap} {y : Env × Heap}, aOps P pol K I f ops rest env h = some y → E.ev fun x => aOps P pol (K' x) (I' x) f ops rest env h = some y := by
  intro rest
  induction rest with
  | nil => intro env h y hs; exact E.all fun x => hs
  | cons o rest ih =>
    intro env h y hs
    unfold aOps at hs
    split at hs
    · rename_i b hb
      split at hs
      · rename_i hbt
        split at hs
        · rename_i e2 h2 hst
          exact E.mono2 (lim_step hK hI hst) (ih hs) fun x h1 h2 => by unfold aOps; simp only [hb, hbt, if_true, h1]; exact h2
        · simp at hs
      · rename_i hbt
        exact E.mono (ih hs) fun x h1 => by unfold aOps; simp only [hb, hbt]; exact h1
    · simp at hs

theorem lim_opsD {ops : List Oper} : ∀ (rest : List Oper) {env : Env} {h : Heap} {y : Env × Heap × List (Option (List Nat))}, aOpsD P pol K I f ops rest env h = some y → E.ev fun x => aOpsD P pol (K' x) (I' x) f ops rest env h = some y := by
  intro rest
  induction rest with
  | nil => intro env h y hs; exact E.all fun x => hs
  | cons o rest ih =>
    intro env h y hs
    unfold aOpsD at hs
    split at hs
    · rename_i b hb
      split at hs
      · rename_i hbt
        split at hs
        · rename_i e2 h2 hst
          split at hs
          · simp at hs
          · rename_i hl
            split at hs
            · rename_i e3 h3 ts hr
              exact E.mono2 (lim_step1 hK hI hst) (ih hr) fun x h1 h2 => by unfold aOpsD; simp only [hb, hbt, if_true, h1, hl, if_false, h2]; exact hs
            · simp at hs
        · simp at hs
      · rename_i hbt
        split at hs
        · rename_i e3 h3 ts hr
          exact E.mono (ih hr) fun x h1 => by unfold aOpsD; simp only [hb, hbt, h1]; exact hs
        · simp at hs
    · simp at hs

omit hK hI in
theorem lim_iter {n0 : Nat} {live : Option (List Tmp)} {body : Env → Heap → Option (Xit × Env × Heap)} {body' : ι → Env → Heap → Option (Xit × Env × Heap)} (hb : ∀ env h y, body env h = some y → E.ev fun x => body' x env h = some y) :
    ∀ (n : Nat) {env : Env} {h : Heap} {y : Xit × Env × Heap}, iter n0 live body n env h = some y → E.ev fun x => ∀ m, n ≤ m → iter n0 live (body' x) m env h = some y := by
  intro n
  induction n with
  | zero => intro env h y hs; simp [iter] at hs
  | succ n ih =>
    intro env h y hs
    unfold iter at hs
    split at hs
    · rename_i e2 h2 hbd
      split at hs
      · rename_i e3 h3 hsh
        refine E.mono2 (hb _ _ _ hbd) (ih hs) fun x h1 h2 m hm => ?_
        obtain ⟨k, rfl⟩ : ∃ k, m = k + 1 := ⟨m - 1, by omega⟩
        unfold iter
        simp only [h1, hsh]
        exact h2 k (by omega)
      · simp at hs
    · rename_i hnn
      refine E.mono (hb _ _ _ hs) fun x h1 m hm => ?_
      obtain ⟨k, rfl⟩ : ∃ k, m = k + 1 := ⟨m - 1, by omega⟩
      unfold iter
      rw [h1]
      obtain ⟨xt, e2, h2⟩ := y
      cases xt with
      | normal => exact absurd hs (hnn e2 h2)
      | exit id => rfl
      | ret => rfl

include hn
theorem lim_code : ∀ (c : Code) {bid : Nat} {env : Env} {h : Heap} {y : Xit × Env × Heap}, aCode P pol K I n f bid c env h = some y → E.ev fun x => aCode P pol (K' x) (I' x) (n' x) f bid c env h = some y := by
  intro c
  induction c with
  | skip => intro bid env h y hs; exact E.all fun x => by simpa [aCode] using hs
  | label l => intro bid env h y hs; exact E.all fun x => by simpa [aCode] using hs
  | exit id => intro bid env h y hs; exact E.all fun x => by simpa [aCode] using hs
  | ret => intro bid env h y hs; exact E.all fun x => by simpa [aCode] using hs
  | region id ops dr =>
    intro bid env h y hs
    cases dr with
    | false =>
      simp only [aCode] at hs
      split at hs
      · rename_i e2 h2 ho
        exact E.mono (lim_ops hK hI _ ho) fun x h1 => by simp only [aCode, h1]; exact hs
      · simp at hs
    | true =>
      simp only [aCode] at hs
      split at hs
      · rename_i e2 h2 ts ho
        exact E.mono (lim_opsD hK hI _ ho) fun x h1 => by simp only [aCode, h1]; exact hs
      · simp at hs
  | seq a b iha ihb =>
    intro bid env h y hs
    simp only [aCode] at hs
    split at hs
    · rename_i e2 h2 ha
      exact E.mono2 (iha ha) (ihb hs) fun x h1 h2 => by simp only [aCode, h1]; exact h2
    · rename_i hnn
      refine E.mono (iha hs) fun x h1 => ?_
      simp only [aCode, h1]
      obtain ⟨xt, e2, h2⟩ := y
      cases xt with
      | normal => exact absurd hs (hnn e2 h2)
      | exit id => rfl
      | ret => rfl
  | cond t a b iha ihb =>
    intro bid env h y hs
    simp only [aCode] at hs
    split at hs
    · rename_i v hv
      split at hs
      · rename_i ht
        exact E.mono (iha hs) fun x h1 => by simp only [aCode, hv, ht, if_true]; exact h1
      · rename_i ht
        exact E.mono (ihb hs) fun x h1 => by simp only [aCode, hv, ht]; exact h1
    · simp at hs
  | block id c ih =>
    intro bid env h y hs
    simp only [aCode] at hs
    split at hs
    · rename_i j e2 h2 hc
      exact E.mono (ih hc) fun x h1 => by simp only [aCode, h1]; exact hs
    · rename_i hnn
      refine E.mono (ih hs) fun x h1 => ?_
      simp only [aCode, h1]
      obtain ⟨xt, e2, h2⟩ := y
      cases xt with
      | normal => rfl
      | exit id => exact absurd hs (hnn id e2 h2)
      | ret => rfl
  | loop c ih =>
    intro bid env h y hs
    simp only [aCode] at hs
    exact E.mono2 (lim_iter (body' := fun x => aCode P pol (K' x) (I' x) (n' x) f bid c) (fun env h y hy => ih hy) n hs) hn fun x h1 h2 => by simp only [aCode]; exact h1 _ h2
  | scope c ih =>
    intro bid env h y hs
    simp only [aCode] at hs
    exact E.mono (ih hs) fun x h1 => by simp only [aCode]; exact h1
  | rangeFunc g params assign body _ _ =>
    intro bid env h y hs
    simp only [aCode] at hs
    split at hs
    · rename_i gf args hg
      split at hs
      · rename_i v h2 hi
        exact E.mono (hI _ _ _ _ hi) fun x h1 => by simp only [aCode, hg, h1]; exact hs
      · simp at hs
    · simp at hs
  | _ => intro bid env h y hs; simp [aCode] at hs

theorem lim_body {args : List AV} {h : Heap} {y : AV × Heap} (hb : aBody P pol K I n f args h = some y) : E.ev fun x => aBody P pol (K' x) (I' x) (n' x) f args h = some y := by
  unfold aBody at hb
  split at hb
  · rename_i fn hf
    split at hb
    · rename_i c hc
      split at hb
      · rename_i env2 h2 ha
        exact E.mono (lim_code hK hI hn c ha) fun x h1 => by unfold aBody; simp only [hf, hc, h1]; exact hb
      · rename_i env2 h2 ha
        exact E.mono (lim_code hK hI hn c ha) fun x h1 => by unfold aBody; simp only [hf, hc, h1]; exact hb
      · simp at hb
    · simp at hb
  · simp at hb

end

/-- From some i on. -/
def fromN : Flt Nat where
  ev p := ∃ i, ∀ j, i ≤ j → p j
  all h := ⟨0, fun j _ => h j⟩
  mono := fun ⟨i, h⟩ hm => ⟨i, fun j hj => hm j (h j hj)⟩
  both := fun ⟨i, h⟩ ⟨k, h'⟩ => ⟨i + k, fun j hj => ⟨h j (by omega), h' j (by omega)⟩⟩

/-- From some i on, in the first; at least d, in the second. -/
def fromP (d : Nat) : Flt (Nat × Nat) where
  ev p := ∃ i, ∀ j, i ≤ j → ∀ e, d ≤ e → p (j, e)
  all h := ⟨0, fun j _ e _ => h (j, e)⟩
  mono := fun ⟨i, h⟩ hm => ⟨i, fun j hj e he => hm _ (h j hj e he)⟩
  both := fun ⟨i, h⟩ ⟨k, h'⟩ => ⟨i + k, fun j hj e he => ⟨h j (by omega) e he, h' j (by omega) e he⟩⟩

theorem lim_inl {K : Oracle} {C : Nat → Oracle} {n : Nat} (hK : LimK fromN K C) : ∀ (d : Nat), LimI (fromP d) (inl P pol K n d) (fun x => inl P pol (C x.1) x.1 x.2) := by
  intro d
  induction d with
  | zero => intro g args h y hs; simp [inl] at hs
  | succ d ih =>
    intro g args h y hs
    have hK' : LimK (fromP d) K (fun x => C x.1) := fun f ts r hr => let ⟨i, hi⟩ := hK f ts r hr; ⟨i, fun j hj e _ => hi j hj⟩
    have hn' : (fromP d).ev fun x => n ≤ x.1 := ⟨n, fun j hj e _ => hj⟩
    have up : ∀ {p : Nat × Nat → Prop}, (fromP d).ev p → (fromP (d + 1)).ev fun x => p (x.1, x.2 - 1) := fun ⟨i, hi⟩ => ⟨i, fun j hj e he => hi j hj (e - 1) (by omega)⟩
    have pos : (fromP (d + 1)).ev fun x => x.2 = x.2 - 1 + 1 := ⟨0, fun j _ e he => by simp; omega⟩
    cases g with
    | fn g =>
      simp only [inl] at hs
      refine (fromP (d + 1)).mono2 (up (lim_body hK' ih hn' hs)) pos fun x h1 h2 => ?_
      show inl P pol (C x.1) x.1 x.2 (.fn g) args h = some y
      rw [h2]
      simp only [inl]
      exact h1
    | yl l =>
      simp only [inl] at hs
      split at hs
      · rename_i f env params assign body hget
        split at hs
        · simp at hs
        · rename_i hlen
          split at hs
          · rename_i env1 h1 hassign
            split at hs
            · rename_i h1b hbusy
              have fin : ∀ {y'}, aCode P pol K (inl P pol K n d) n f 0 body env1 h1b = some y' → (∀ x : Nat × Nat, aCode P pol (C x.1) (inl P pol (C x.1) x.1 (x.2 - 1)) x.1 f 0 body env1 h1b = some y' →
                  (match (aCode P pol (C x.1) (inl P pol (C x.1) x.1 (x.2 - 1)) x.1 f 0 body env1 h1b) with
                    | some (.normal, _, h2) => idleOf h2 l none
                    | some (.ret, _, h2) => idleOf h2 l (some .ret)
                    | some (.exit id, _, h2) => idleOf h2 l (some (.exit id))
                    | none => none) = some y) → (fromP (d + 1)).ev fun x => inl P pol (C x.1) x.1 x.2 (.yl l) args h = some y := by
                intro y' hbd hfin
                refine (fromP (d + 1)).mono2 (up ((fromP d).both (lim_code hK' ih hn' assign hassign) (lim_code hK' ih hn' body hbd))) pos fun x h1 h2 => ?_
                rw [h2]
                simp only [inl, hget, hlen, if_false]
                rw [h1.1]
                simp only [hbusy]
                exact hfin x h1.2
              split at hs
              · rename_i e3 h3 hbd
                exact fin hbd fun x hx => by rw [hx]; exact hs
              · rename_i e3 h3 hbd
                exact fin hbd fun x hx => by rw [hx]; exact hs
              · rename_i id e3 h3 hbd
                exact fin hbd fun x hx => by rw [hx]; exact hs
              · simp at hs
            · simp at hs
          · simp at hs
      · simp at hs

/-- The evaluator over itself, step by step. -/
def chain (P : Program) (pol : Pol) : Nat → Oracle
  | 0 => fun _ _ => none
  | j + 1 => fun f ts => match primT pol f ts with | some r => some r | none => runTop P pol (chain P pol j) j j f ts

open Classical in
/-- What the evaluator comes to in the end. -/
noncomputable def ans (P : Program) (pol : Pol) : Oracle := fun f ts => if h : ∃ r, fromN.ev fun j => chain P pol j f ts = some r then some h.choose else none

theorem ans_lim : LimK fromN (ans P pol) (chain P pol) := by
  intro f ts r hr
  unfold ans at hr
  split at hr
  · rename_i h
    cases hr
    exact h.choose_spec
  · simp at hr

theorem ans_of_ev {f : FuncId} {ts : List T} {r : T} (h : fromN.ev fun j => chain P pol j f ts = some r) : ans P pol f ts = some r := by
  have hex : ∃ r, fromN.ev fun j => chain P pol j f ts = some r := ⟨r, h⟩
  unfold ans
  rw [dif_pos hex]
  obtain ⟨i, hi⟩ := hex.choose_spec
  obtain ⟨k, hk⟩ := h
  have h1 : chain P pol (i + k) f ts = some hex.choose := hi (i + k) (by omega)
  have h2 : chain P pol (i + k) f ts = some r := hk (i + k) (by omega)
  exact h1.symm.trans h2

theorem top_lim {K : Oracle} {C : Nat → Oracle} (hK : LimK fromN K C) {n d : Nat} {f : FuncId} {ts : List T} {r : T} (h : runTop P pol K n d f ts = some r) : fromN.ev fun j => runTop P pol (C j) j j f ts = some r := by
  unfold runTop at h
  split at h
  · rename_i v h' hb
    have hI : LimI fromN (inl P pol K n d) (fun j => inl P pol (C j) j j) := fun g args h y hs => by
      obtain ⟨i, hi⟩ := lim_inl (P := P) (pol := pol) (n := n) hK d g args h y hs
      exact ⟨i + d, fun j hj => hi j (by omega) j (by omega)⟩
    exact fromN.mono (lim_body (n' := fun j => j) hK hI ⟨n, fun j hj => hj⟩ hb) fun j hj => by unfold runTop; simp only [hj]; exact h
  · simp at h

/-- A call answers what its body evaluates to. -/
theorem ans_of_top {n d : Nat} {f : FuncId} {ts : List T} {r : T} (hp : primT pol f ts = none) (h : runTop P pol (ans P pol) n d f ts = some r) : ans P pol f ts = some r := by
  obtain ⟨i, hi⟩ := top_lim ans_lim h
  refine ans_of_ev ⟨i + 1, fun j hj => ?_⟩
  obtain ⟨k, rfl⟩ : ∃ k, j = k + 1 := ⟨j - 1, by omega⟩
  simp only [chain, hp]
  exact hi k (by omega)

theorem ans_prim {f : FuncId} {ts : List T} {r : T} (hp : primT pol f ts = some r) : ans P pol f ts = some r := by
  refine ans_of_ev ⟨1, fun j hj => ?_⟩
  obtain ⟨k, rfl⟩ : ∃ k, j = k + 1 := ⟨j - 1, by omega⟩
  simp only [chain, hp]

theorem ans_of_run {n : Nat} : ∀ (m : Nat) {f : FuncId} {ts : List T} {r : T}, runN P pol n m f ts = some r → ans P pol f ts = some r := by
  intro m
  induction m with
  | zero => intro f ts r h; simp [runN] at h
  | succ m ih =>
    intro f ts r h
    simp only [runN] at h
    cases hp : primT pol f ts with
    | some r' => rw [hp] at h; exact ans_prim (by rw [hp]; exact h)
    | none =>
      rw [hp] at h
      have hK : LimK fromN (runN P pol n m) (fun _ => ans P pol) := fun f ts r hr => ⟨0, fun _ _ => ih hr⟩
      obtain ⟨i, hi⟩ := top_lim (P := P) (pol := pol) hK h
      exact ans_of_top hp (hi i (Nat.le_refl _))

/-- What is known of a program and a policy once for all. -/
structure Sound (P : Program) (pol : Pol) : Prop where
  mix : P.follows .mixedOrders = true
  prog : ProgOk P pol regionOk
  prim : KOk P pol (primT pol)

theorem chain_ok (hS : Sound P pol) : ∀ j, KOk P pol (chain P pol j) := by
  letI : Cp := ⟨fun f c => codeOk pol regionOk f c = true⟩
  intro j
  induction j with
  | zero => intro f ts r h; simp [chain] at h
  | succ j ih =>
    intro f ts r h
    simp only [chain] at h
    cases hp : primT pol f ts with
    | some r' => rw [hp] at h; exact hS.prim f ts r (by rw [hp]; exact h)
    | none =>
      rw [hp] at h
      exact top_sim (ok := regionOk) (fun f c => Iff.rfl) hS.prog ih (fun I hI => drawn_ok hS.mix ih hI) h

theorem ans_ok (hS : Sound P pol) : KOk P pol (ans P pol) := by
  intro f ts r h
  obtain ⟨i, hi⟩ := ans_lim f ts r h
  exact chain_ok hS i f ts r (hi i (Nat.le_refl _))

theorem orc_none (h : ∀ f ts, pol.orc f ts = none) : KOk P pol pol.orc := by
  intro f ts r hr
  rw [h] at hr
  exact (by cases hr)

theorem prim_no (h : ∀ f, pol.prim f = false) (ho : KOk P pol pol.orc := by exact orc_none (fun _ _ => rfl)) : KOk P pol (primT pol) := by
  intro f ts r hr
  simp only [primT, h, Bool.false_eq_true, if_false] at hr
  exact ho f ts r hr

/-- Functions that copy a slice: what they make of a slice without elements, nil or not. -/
theorem prim_of {pol0 : Pol} (hS : Sound P pol0) (hg : pol0.glob = pol.glob) (hp : ∀ f, pol.prim f = true → ∀ a cap, ∃ r, ans P pol0 f [.sc (.slice a 0 cap)] = some r ∧ (r = .sc (.slice none 0 0) ∨ ∃ c k, r = .sl c k [])) (ho : KOk P pol pol.orc := by exact orc_none (fun _ _ => rfl)) : KOk P pol (primT pol) := by
  intro f ts r hr
  unfold primT at hr
  split at hr
  · rename_i hf
    split at hr
    · rename_i c k
      simp only [Option.some.injEq] at hr
      subst hr
      obtain ⟨r0, h0, _⟩ := hp f hf none 0
      refine ⟨(ans_ok hS f _ _ h0).1, fun w D args hd hgl hsz hrep => ?_⟩
      have hlt : 0 < args.size := by rw [hsz]; simp
      have hv := hrep 0 args[0] _ (by simp [hlt]) rfl
      have key : ∃ a cap, args[0] = .slice a 0 cap := by
        generalize args[0] = v at hv
        cases hv with
        | nosl a cap => exact ⟨a, cap, rfl⟩
        | sl b off len cap _ _ _ _ hlen => simp at hlen; subst hlen; exact ⟨_, _, rfl⟩
      obtain ⟨a, cap, hac⟩ := key
      obtain ⟨r1, h1, hr1⟩ := hp f hf a cap
      have hgl0 : GlobOk pol0 D w := ⟨fun g x hx => hgl.rep g x (by rw [← hg]; exact hx), fun g ts hx => hgl.row g ts (by rw [← hg]; exact hx)⟩
      refine ((ans_ok hS f _ _ h1).2 w D args hd hgl0 (by simpa using hsz) (fun i v t hv ht => ?_)).mono (fun e w' he => ?_)
      · cases i with
        | zero =>
          simp only [List.getElem?_cons_zero, Option.some.injEq] at ht
          subst ht
          have : v = .slice a 0 cap := by
            have h2 : args[0]? = some args[0] := by simp [hlt]
            rw [h2] at hv
            simp only [Option.some.injEq] at hv
            rw [← hv, hac]
          subst this
          exact .sc _ rfl
        | succ i => simp at ht
      · obtain ⟨v, rfl, hk, hr⟩ := he
        refine ⟨v, rfl, hk, ?_⟩
        rcases hr1 with rfl | ⟨c1, k1, rfl⟩
        · obtain ⟨rfl, _⟩ := hr.sc_eq
          exact .nosl none 0 false k (by simp)
        · cases hr with
          | nosl a' cap' => exact .nosl a' cap' false k (by simp)
          | sl b off len cap' _ _ _ _ hlen => simp at hlen; subst hlen; exact .nosl _ _ false k (by simp)
    · simp at hr
  · exact ho f ts r hr

end Go.Abs
