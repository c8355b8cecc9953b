/- Objects read as trees. -/
import Derived.Test.YtkamfflnfnjbeaaAbsOpZ
set_option linter.unusedSimpArgs false
set_option linter.unusedVariables false
namespace Go.Abs
open Go

variable {P : Program} {Z : Base} {D D2 : Dom} {β β2 : Bet} {w : World} {h h' : Heap} {p : Nat → Bool}

theorem mapO_get {α γ : Type} {g : α → Option γ} {l : List α} {r : List γ} (h : mapO g l = some r) : l.length = r.length ∧ ∀ (i : Nat) a b, l[i]? = some a → r[i]? = some b → g a = some b := by
  induction l generalizing r with
  | nil => simp [mapO] at h; subst h; exact ⟨rfl, by simp⟩
  | cons x l ih =>
    simp only [mapO] at h
    split at h
    · rename_i b bs hb hbs
      simp at h; subst h
      obtain ⟨h1, h2⟩ := ih hbs
      refine ⟨by simp [h1], fun i a c ha hc => ?_⟩
      cases i with
      | zero => simp at ha hc; subst ha; subst hc; exact hb
      | succ i => exact h2 i a c (by simpa using ha) (by simpa using hc)
    · simp at h

theorem snap_t (d : Nat) (x : T) : snap h p d (.t x) = some x := by cases d <;> rfl

theorem snap_cells {d : Nat} {x : AV} {t : T} (hs : snap h p d x = some t) : x.cells.length = t.cells.length ∧ ∀ (j : Nat) c tc, x.cells[j]? = some c → t.cells[j]? = some tc → ∃ d', d' ≤ d ∧ snap h p d' c = some tc := by
  have single : x.cells = [x] → t.cells = [t] → x.cells.length = t.cells.length ∧ ∀ (j : Nat) c tc, x.cells[j]? = some c → t.cells[j]? = some tc → ∃ d', d' ≤ d ∧ snap h p d' c = some tc := by
    intro e1 e2
    rw [e1, e2]
    refine ⟨rfl, fun j c tc hc htc => ?_⟩
    cases j with
    | zero => simp at hc htc; subst hc; subst htc; exact ⟨d, Nat.le_refl _, hs⟩
    | succ j => simp at hc
  cases x with
  | t y =>
    rw [snap_t] at hs
    cases hs
    rw [tcells]
    refine ⟨by simp, fun j c tc hc htc => ?_⟩
    rw [List.getElem?_map, htc] at hc
    simp at hc
    subst hc
    exact ⟨0, Nat.zero_le _, snap_t 0 tc⟩
  | agg cs =>
    cases d with
    | zero => simp [snap] at hs
    | succ d =>
      simp only [snap] at hs
      split at hs
      · rename_i ts hts
        simp at hs; subst hs
        obtain ⟨h1, h2⟩ := mapO_get hts
        exact ⟨h1, fun j c tc hc htc => ⟨d, by omega, h2 j c tc hc htc⟩⟩
      · simp at hs
  | tup cs =>
    cases d with
    | zero => simp [snap] at hs
    | succ d =>
      simp only [snap] at hs
      split at hs
      · simp at hs; subst hs; exact single rfl rfl
      · simp at hs
  | fn g a b =>
    cases d with
    | zero => simp [snap] at hs
    | succ d =>
      simp only [snap] at hs
      split at hs
      · simp at hs; subst hs; exact single rfl rfl
      · simp at hs
  | ref o e i off =>
    cases d with
    | zero => simp [snap] at hs
    | succ d =>
      simp only [snap] at hs
      split at hs
      · split at hs
        · split at hs
          · simp at hs; subst hs; exact single rfl rfl
          · simp at hs
        · simp at hs
      · simp at hs
  | ms o e i len k clip =>
    cases d with
    | zero => simp [snap] at hs
    | succ d =>
      simp only [snap] at hs
      split at hs
      · split at hs
        · split at hs
          · simp at hs; subst hs; exact single rfl rfl
          · simp at hs
        · simp at hs
      · simp at hs
  | mp o => cases d <;> simp [snap] at hs
  | yl o => cases d <;> simp [snap] at hs
  | dead => cases d <;> simp [snap] at hs

/-- What an object reads as now is a tree in this world, as long as its blocks stay. -/
theorem snap_rep [Cp] (hobj : ∀ (o : Nat) x, p o = true → h[o]? = some x → ObjOk D β w o x) (hD : ∀ b, D b → D2 b) (hβ : ∀ o e b k, p o = true → β o e = some (b, k) → D2 b) :
    ∀ (d : Nat) (x : AV) (v : Value) (t : T), snap h p d x = some t → Rep D β w v x → RepT D2 w v t := by
  intro d
  induction d using Nat.strongRecOn with
  | _ d ih =>
    intro x v t hs hr
    cases x with
    | t y =>
      rw [snap_t] at hs
      cases hs
      exact hr.toT.mono hD (fun _ _ => rfl)
    | agg cs =>
      cases d with
      | zero => simp [snap] at hs
      | succ d =>
        simp only [snap] at hs
        split at hs
        · rename_i ts hts
          simp at hs; subst hs
          obtain ⟨h1, h2⟩ := mapO_get hts
          cases hr with
          | agg a _ hl hrr =>
            refine .agg a ts (by omega) fun i v t hv ht => ?_
            have hi : i < cs.length := by rw [h1]; exact (List.getElem?_eq_some_iff.1 ht).1
            have hc : cs[i]? = some cs[i] := by simp [hi]
            exact ih d (by omega) _ v t (h2 i _ t hc ht) (hrr i v _ hv hc)
        · simp at hs
    | tup cs =>
      cases d with
      | zero => simp [snap] at hs
      | succ d =>
        simp only [snap] at hs
        split at hs
        · rename_i ts hts
          simp at hs; subst hs
          obtain ⟨h1, h2⟩ := mapO_get hts
          cases hr with
          | tup a _ hl hrr =>
            refine .tup a ts (by omega) fun i v t hv ht => ?_
            have hi : i < cs.length := by rw [h1]; exact (List.getElem?_eq_some_iff.1 ht).1
            have hc : cs[i]? = some cs[i] := by simp [hi]
            exact ih d (by omega) _ v t (h2 i _ t hc ht) (hrr i v _ hv hc)
        · simp at hs
    | fn g x1 x2 =>
      cases d with
      | zero => simp [snap] at hs
      | succ d =>
        simp only [snap] at hs
        split at hs
        · rename_i ta tb hta htb
          simp at hs; subst hs
          obtain ⟨h1, h2⟩ := mapO_get hta
          obtain ⟨h3, h4⟩ := mapO_get htb
          cases hr with
          | fn _ a b _ _ ha hb q1 q2 =>
            refine .fn g a b ta tb (by omega) (by omega) (fun i v t hv ht => ?_) (fun i v t hv ht => ?_)
            · have hi : i < x1.length := by rw [h1]; exact (List.getElem?_eq_some_iff.1 ht).1
              have hc : x1[i]? = some x1[i] := by simp [hi]
              exact ih d (by omega) _ v t (h2 i _ t hc ht) (q1 i v _ hv hc)
            · have hi : i < x2.length := by rw [h3]; exact (List.getElem?_eq_some_iff.1 ht).1
              have hc : x2[i]? = some x2[i] := by simp [hi]
              exact ih d (by omega) _ v t (h4 i _ t hc ht) (q2 i v _ hv hc)
        · simp at hs
    | ref o e i off =>
      cases d with
      | zero => simp [snap] at hs
      | succ d =>
        simp only [snap] at hs
        split at hs
        · rename_i hp
          split at hs
          · rename_i y hy
            split at hs
            · rename_i ts hts
              simp at hs; subst hs
              obtain ⟨h1, h2⟩ := mapO_get hts
              obtain ⟨k, elems, mr, ho, hm, hi, he, hel⟩ := rowAt_some hy
              cases hr with
              | ref _ _ _ _ b k' hb =>
                obtain ⟨rfl, c, hcell⟩ := RowOk.cell (hobj o _ hp ho) hb hm hi hel
                refine .ip b (i * k' + off) _ (hβ o e b k' hp hb) (fun j => c (off + j)) (fun j hj => ?_) (fun j t ht => ?_)
                · have hlt : off + j < y.cells.length := by simp at hj; omega
                  have := hcell (off + j) y.cells[off + j] (by simp [hlt])
                  rw [Nat.add_assoc]
                  exact ⟨this.1, this.2.1⟩
                · rw [List.getElem?_drop] at ht
                  have hlt : off + j < y.cells.length := by rw [h1]; exact (List.getElem?_eq_some_iff.1 ht).1
                  have hc : y.cells[off + j]? = some y.cells[off + j] := by simp [hlt]
                  exact ih d (by omega) _ _ t (h2 _ _ t hc ht) (hcell _ _ hc).2.2
            · simp at hs
          · simp at hs
        · simp at hs
    | ms o e i len k clip =>
      cases d with
      | zero => simp [snap] at hs
      | succ d =>
        simp only [snap] at hs
        split at hs
        · rename_i hp
          split at hs
          · rename_i es hes
            split at hs
            · rename_i ts hts
              simp at hs; subst hs
              obtain ⟨h1, h2⟩ := mapO_get hts
              obtain ⟨k2, elems, mr, ho, _, hm, hel, hil, rfl⟩ := elems_ms hes
              have hlen : ((elems.drop i).take len).length = len := by simp; omega
              have htl : ts.length = len := by omega
              rcases ms_inv hr with ⟨hl, a, hv⟩ | ⟨b, cap, n, hbb, hle, hcapl, hclip, hn, hsz, hv⟩
              · subst hv
                have : ts = [] := List.eq_nil_of_length_eq_zero (by omega)
                subst this
                exact .nosl a 0 clip k (fun _ => rfl)
              · subst hv
                have hrok := hobj o _ hp ho
                obtain ⟨hDb, hk2, _, hcc⟩ := hrok.2 e b k hbb
                subst hk2
                obtain ⟨c, ty, q1, q2, q3⟩ := hcc hm
                have hget : ∀ j, j < len → ((elems.drop i).take len)[j]? = elems[i + j]? := by
                  intro j hj
                  rw [List.getElem?_take, if_pos hj, List.getElem?_drop]
                have helem : ∀ j, j < len → ∃ y, elems[i + j]? = some y ∧ ((elems.drop i).take len)[j]? = some y := by
                  intro j hj
                  have hlt : i + j < elems.length := by omega
                  exact ⟨elems[i + j], by simp [hlt], by rw [hget j hj]; simp [hlt]⟩
                have hkt : ∀ (j : Nat) x, ts[j]? = some x → x.cells.length = k := by
                  intro j x hx
                  have hj : j < len := by have := (List.getElem?_eq_some_iff.1 hx).1; omega
                  obtain ⟨y, hy1, hy2⟩ := helem j hj
                  have := (snap_cells (h2 j y x hy2 hx)).1
                  rw [← this]; exact hrok.1 _ y hy1
                have hcell : ∀ (j : Nat) x (q : Nat) t, ts[j]? = some x → x.cells[q]? = some t → ∃ v, c[(i + j) * k + q]? = some v ∧ okCell v = true ∧ RepT D2 w v t := by
                  intro j x q t hx ht
                  have hj : j < len := by have := (List.getElem?_eq_some_iff.1 hx).1; omega
                  obtain ⟨y, hy1, hy2⟩ := helem j hj
                  obtain ⟨g1, g2⟩ := snap_cells (h2 j y x hy2 hx)
                  have hq : q < y.cells.length := by rw [g1]; exact (List.getElem?_eq_some_iff.1 ht).1
                  have hc : y.cells[q]? = some y.cells[q] := by simp [hq]
                  obtain ⟨d', hd', hsn⟩ := g2 q _ t hc ht
                  obtain ⟨v, p1, p2, p3⟩ := q3 (i + j) y q _ (by omega) hy1 hc
                  exact ⟨v, p1, p2, ih d' (by omega) _ v t hsn p3⟩
                refine .sl b (i * k) len cap clip k ts (hβ o e b k hp hbb) (by omega) hcapl hclip hkt (fun j => (c[i * k + j]?).getD default) (fun j hj => ?_) (fun j x q t hx ht => ?_)
                · by_cases hk0 : k = 0
                  · subst hk0; simp at hj
                  · have hdiv : j / k < len := (Nat.div_lt_iff_lt_mul (by omega)).2 hj
                    have hmod : j % k < k := Nat.mod_lt _ (by omega)
                    have hxd : ts[j / k]? = some ts[j / k] := by rw [List.getElem?_eq_getElem (by omega)]
                    have hcl := hkt _ _ hxd
                    obtain ⟨v, p1, p2, _⟩ := hcell _ _ (j % k) _ hxd (List.getElem?_eq_getElem (by rw [hcl]; exact hmod))
                    have hjj : (i + j / k) * k + j % k = i * k + j := by
                      have := Nat.div_add_mod j k
                      rw [Nat.mul_comm] at this
                      rw [Nat.add_mul]; omega
                    rw [hjj] at p1
                    simp only [p1, Option.getD_some]
                    exact ⟨by simp [World.cell?, q1, p1], p2⟩
                · obtain ⟨v, p1, p2, p3⟩ := hcell j x q t hx ht
                  have hjj : i * k + (j * k + q) = (i + j) * k + q := by rw [Nat.add_mul]; omega
                  rw [hjj]
                  simp only [p1, Option.getD_some]
                  exact p3
            · simp at hs
          · simp at hs
        · simp at hs
    | mp o => cases d <;> simp [snap] at hs
    | yl o => cases d <;> simp [snap] at hs
    | dead => cases d <;> simp [snap] at hs

theorem avoidAll_get {l : List AV} (ha : avoidAll p l = true) {i : Nat} {x : AV} (hx : l[i]? = some x) : avoid p x = true := by
  induction l generalizing i with
  | nil => simp at hx
  | cons c r ih =>
    simp [avoidAll] at ha
    cases i with
    | zero => simp at hx; subst hx; exact ha.1
    | succ i => exact ih ha.2 (by simpa using hx)

/-- A value that names nothing of p goes on without it. -/
theorem avoid_rep (hD : ∀ b, D b → D2 b) (hβ : ∀ o e y, p o = false → β o e = some y → β2 o e = some y) {v : Value} {x : AV} (hr : Rep D β w v x) (ha : avoid p x = true) : Rep D2 β2 w v x := by
  induction hr with
  | t v x hx => exact .t v x (hx.mono hD (fun _ _ => rfl))
  | agg cs ts hl _ ih => simp [avoid] at ha; exact .agg cs ts hl (fun i v t hv ht => ih i v t hv ht (avoidAll_get ha ht))
  | tup cs ts hl _ ih => simp [avoid] at ha; exact .tup cs ts hl (fun i v t hv ht => ih i v t hv ht (avoidAll_get ha ht))
  | fn f a b x y h1 h2 _ _ ih1 ih2 =>
    simp [avoid] at ha
    exact .fn f a b x y h1 h2 (fun i v t hv ht => ih1 i v t hv ht (avoidAll_get ha.1 ht)) (fun i v t hv ht => ih2 i v t hv ht (avoidAll_get ha.2 ht))
  | ref o e i off b k hb => simp [avoid] at ha; exact .ref o e i off b k (hβ o e _ ha hb)
  | ms0 a o e i k clip => exact .ms0 a o e i k clip
  | ms o e i len k clip b cap n hb hle hcap hclip hn hsz => simp [avoid] at ha; exact .ms o e i len k clip b cap n (hβ o e _ ha hb) hle hcap hclip hn hsz
  | mp o b k hb => simp [avoid] at ha; exact .mp o b k (hβ o 0 _ ha hb)
  | yl o b k hb => simp [avoid] at ha; exact .yl o b k (hβ o 0 _ ha hb)
  | dead v => exact .dead v

theorem frzCell_rep [Cp] (hobj : ∀ (o : Nat) x, p o = true → h[o]? = some x → ObjOk D β w o x) (hD : ∀ b, D b → D2 b) (hβ1 : ∀ o e b k, p o = true → β o e = some (b, k) → D2 b)
    (hβ2 : ∀ o e y, p o = false → β o e = some y → β2 o e = some y) {v : Value} {x y : AV} (hf : frzCell h p x = some y) (hr : Rep D β w v x) : Rep D2 β2 w v y := by
  unfold frzCell at hf
  split at hf
  · rename_i ha
    simp at hf; subst hf
    exact avoid_rep hD hβ2 hr ha
  · split at hf
    · rename_i t ht
      simp at hf; subst hf
      exact .t _ _ (snap_rep hobj hD hβ1 20 x v t ht hr)
    · simp at hf

theorem frz_rep [Cp] (hobj : ∀ (o : Nat) x, p o = true → h[o]? = some x → ObjOk D β w o x) (hD : ∀ b, D b → D2 b) (hβ1 : ∀ o e b k, p o = true → β o e = some (b, k) → D2 b)
    (hβ2 : ∀ o e y, p o = false → β o e = some y → β2 o e = some y) {v : Value} {x y : AV} (hf : frz h p x = some y) (hr : Rep D β w v x) : Rep D2 β2 w v y := by
  unfold frz at hf
  split at hf
  · rename_i cs
    split at hf
    · rename_i ha
      simp at hf; subst hf
      exact avoid_rep hD hβ2 hr (by simpa [avoid] using ha)
    · split at hf
      · rename_i ds hds
        simp at hf; subst hf
        obtain ⟨h1, h2⟩ := mapO_get hds
        cases hr with
        | agg a _ hl hrr =>
          refine Rep.mkAgg (by omega) fun i v t hv ht => ?_
          have hi : i < cs.length := by rw [h1]; exact (List.getElem?_eq_some_iff.1 ht).1
          have hc : cs[i]? = some cs[i] := by simp [hi]
          exact frzCell_rep hobj hD hβ1 hβ2 (h2 i _ t hc ht) (hrr i v _ hv hc)
      · simp at hf
  · exact frzCell_rep hobj hD hβ1 hβ2 hf hr

theorem avoid_cells {x : AV} (ha : avoid p x = true) {j : Nat} {c : AV} (hc : x.cells[j]? = some c) : avoid p c = true := by
  cases x with
  | t y => rw [tcells, List.getElem?_map, Option.map_eq_some_iff] at hc; obtain ⟨u, _, rfl⟩ := hc; rfl
  | agg cs => exact avoidAll_get (p := p) (l := cs) (by simpa [avoid] using ha) hc
  | dead => simp [AV.cells] at hc
  | _ =>
    cases j with
    | zero => simp [AV.cells] at hc; subst hc; exact ha
    | succ j => simp [AV.cells] at hc

/-- The cells of a value that was turned. -/
theorem frz_cells [Cp] (hobj : ∀ (o : Nat) x, p o = true → h[o]? = some x → ObjOk D β w o x) (hD : ∀ b, D b → D2 b) (hβ1 : ∀ o e b k, p o = true → β o e = some (b, k) → D2 b)
    (hβ2 : ∀ o e y, p o = false → β o e = some y → β2 o e = some y) {x y : AV} (hf : frz h p x = some y) :
    x.cells.length = y.cells.length ∧ ∀ (j : Nat) c d v, x.cells[j]? = some c → y.cells[j]? = some d → Rep D β w v c → Rep D2 β2 w v d := by
  have av : ∀ {x : AV}, avoid p x = true → x.cells.length = x.cells.length ∧ ∀ (j : Nat) c d v, x.cells[j]? = some c → x.cells[j]? = some d → Rep D β w v c → Rep D2 β2 w v d := by
    intro x ha
    refine ⟨rfl, fun j c d v hc hd hr => ?_⟩
    rw [hc] at hd
    cases hd
    exact avoid_rep hD hβ2 hr (avoid_cells ha hc)
  have cellc : ∀ {x y : AV}, frzCell h p x = some y → x.cells.length = y.cells.length ∧ ∀ (j : Nat) c d v, x.cells[j]? = some c → y.cells[j]? = some d → Rep D β w v c → Rep D2 β2 w v d := by
    intro x y hf
    unfold frzCell at hf
    split at hf
    · rename_i ha
      simp at hf; subst hf
      exact av ha
    · split at hf
      · rename_i t ht
        simp at hf; subst hf
        obtain ⟨g1, g2⟩ := snap_cells ht
        rw [tcells]
        refine ⟨by simpa using g1, fun j c d v hc hd hr => ?_⟩
        rw [List.getElem?_map, Option.map_eq_some_iff] at hd
        obtain ⟨u, hu, rfl⟩ := hd
        obtain ⟨d', _, hs⟩ := g2 j c u hc hu
        exact .t _ _ (snap_rep hobj hD hβ1 d' c v u hs hr)
      · simp at hf
  unfold frz at hf
  split at hf
  · rename_i cs
    split at hf
    · rename_i ha
      simp at hf; subst hf
      exact av (by simpa [avoid] using ha)
    · split at hf
      · rename_i ds hds
        simp at hf; subst hf
        obtain ⟨h1, h2⟩ := mapO_get hds
        rw [mkAgg_cells]
        refine ⟨h1, fun j c d v hc hd hr => ?_⟩
        exact frzCell_rep hobj hD hβ1 hβ2 (h2 j c d hc hd) hr
      · simp at hf
  · exact cellc hf

theorem frz_avoid {x : AV} (ha : avoid p x = true) : frz h p x = some x := by
  unfold frz
  split
  · rename_i cs
    have : avoidAll p cs = true := by simpa [avoid] using ha
    simp [this]
  · simp [frzCell, ha]

theorem mapO_frz_avoid {l : List AV} (ha : avoidAll p l = true) : mapO (frz h p) l = some l := by
  induction l with
  | nil => rfl
  | cons c r ih =>
    simp [avoidAll] at ha
    simp [mapO, frz_avoid ha.1, ih ha.2]

theorem mapO_frzEntry_avoid {l : List (Value × AV)} (ha : l.all (fun kv => avoid p kv.2) = true) : mapO (frzEntry h p) l = some l := by
  induction l with
  | nil => rfl
  | cons c r ih =>
    simp only [List.all_cons, Bool.and_eq_true] at ha
    simp [mapO, frzEntry, frz_avoid ha.1, ih ha.2]

/-- An object outside p, with what it names of p turned. -/
theorem frzObj_ok [Cp] (hobj : ∀ (o : Nat) x, p o = true → h[o]? = some x → ObjOk D β w o x) (hD : ∀ b, D b → D2 b) (hβ1 : ∀ o e b k, p o = true → β o e = some (b, k) → D2 b)
    (hβ2 : ∀ o e y, p o = false → β o e = some y → β2 o e = some y) (hβ3 : ∀ o e y, p o = false → β2 o e = some y → β o e = some y) (hβ4 : ∀ o e b k, p o = false → β o e = some (b, k) → D2 b → D b)
    {o : Nat} {x y : AObj} (ho : p o = false) (hx : ObjOk D β w o x) (hf : frzObj h p x = some y) : ObjOk D2 β2 w o y := by
  cases x with
  | gone => simp [frzObj] at hf; subst hf; trivial
  | row k es mr =>
    have hf' : ∃ es', mapO (frz h p) es = some es' ∧ y = .row k es' mr := by
      simp only [frzObj] at hf
      split at hf
      · rename_i ha; simp at hf; exact ⟨es, mapO_frz_avoid ha, hf.symm⟩
      · split at hf
        · rename_i es' he; simp at hf; exact ⟨es', he, hf.symm⟩
        · simp at hf
    obtain ⟨es', he, rfl⟩ := hf'
    obtain ⟨h1, h2⟩ := mapO_get he
    have hc : ∀ (i : Nat) x', es'[i]? = some x' → ∃ x, es[i]? = some x ∧ frz h p x = some x' := by
      intro i x' hx'
      have hi : i < es.length := by rw [h1]; exact (List.getElem?_eq_some_iff.1 hx').1
      have hxi : es[i]? = some es[i] := by simp [hi]
      exact ⟨_, hxi, h2 i _ x' hxi hx'⟩
    refine ⟨fun i x' hx' => ?_, fun e b k' hb => ?_⟩
    · obtain ⟨x, hx1, hx2⟩ := hc i x' hx'
      rw [← (frz_cells hobj hD hβ1 hβ2 hx2).1]
      exact hx.1 i x hx1
    · have hb' := hβ3 o e _ ho hb
      obtain ⟨hDb, hk, hle, hcc⟩ := hx.2 e b k' hb'
      refine ⟨fun q => hDb (hβ4 o e b k' ho hb' q), hk, by omega, fun hm => ?_⟩
      obtain ⟨c, ty, q1, q2, q3⟩ := hcc hm
      refine ⟨c, ty, q1, q2, fun i x' j t hi hx' ht => ?_⟩
      obtain ⟨x, hx1, hx2⟩ := hc i x' hx'
      obtain ⟨g1, g2⟩ := frz_cells hobj hD hβ1 hβ2 hx2
      have hj : j < x.cells.length := by rw [g1]; exact (List.getElem?_eq_some_iff.1 ht).1
      have hcj : x.cells[j]? = some x.cells[j] := by simp [hj]
      obtain ⟨v, r1, r2, r3⟩ := q3 i x j _ hi hx1 hcj
      exact ⟨v, r1, r2, g2 j _ t v hcj ht r3⟩
  | map es =>
    have hf' : ∃ es', mapO (frzEntry h p) es = some es' ∧ y = .map es' := by
      simp only [frzObj] at hf
      split at hf
      · rename_i ha; simp only [Option.some.injEq] at hf; exact ⟨es, mapO_frzEntry_avoid ha, hf.symm⟩
      · split at hf
        · rename_i es' he; simp at hf; exact ⟨es', he, hf.symm⟩
        · simp at hf
    obtain ⟨es', he, rfl⟩ := hf'
    obtain ⟨h1, h2⟩ := mapO_get he
    intro e b k hb
    have hb' := hβ3 o e _ ho hb
    obtain ⟨h0, hDb, mes, clock, q1, q2, q3⟩ := hx e b k hb'
    refine ⟨h0, fun q => hDb (hβ4 o e b k ho hb' q), mes, clock, q1, by omega, fun i m kv' hm hk' => ?_⟩
    have hi : i < es.length := by rw [h1]; exact (List.getElem?_eq_some_iff.1 hk').1
    have hxi : es[i]? = some es[i] := by simp [hi]
    have hfe := h2 i _ kv' hxi hk'
    obtain ⟨r1, r2⟩ := q3 i m _ hm hxi
    unfold frzEntry at hfe
    split at hfe
    · rename_i v hv
      simp at hfe; subst hfe
      exact ⟨r1, frz_rep hobj hD hβ1 hβ2 hv r2⟩
    · simp at hfe
  | loop f env params assign body busy pending =>
    simp only [frzObj] at hf
    split at hf
    · rename_i ha
      simp at hf; subst hf
      intro e b k hb
      have hb' := hβ3 o e _ ho hb
      obtain ⟨h0, hDb, L, q1, q2, q3, q4, q5, q6, q7, q8⟩ := hx e b k hb'
      exact ⟨h0, fun q => hDb (hβ4 o e b k ho hb' q), L, q1, q2, q3, q4, q5, q6, q7, q8.1, fun i v x hv hx => avoid_rep hD hβ2 (q8.2 i v x hv hx) (avoidAll_get ha hx)⟩
    · simp at hf

/-- D with the blocks of the objects of p. -/
def dObj (D : Dom) (β : Bet) (p : Nat → Bool) : Dom := fun b => D b ∨ ∃ o e k, p o = true ∧ β o e = some (b, k)

theorem GInv.dObj (hg : GInv Z D β w) (p : Nat → Bool) : GInv Z (dObj D β p) β w :=
  { hg with
    dlt := fun b hb => hb.elim (hg.dlt b) (fun ⟨o, e, k, _, h⟩ => (hg.blt o e b k h).2)
    dn := fun b hb hl => hb.elim (fun h => hg.dn b h hl) (fun ⟨o, e, k, _, h⟩ => absurd (hg.blt o e b k h).1 (by omega))
    nd := fun b ds hb hN => ⟨fun hd => hd.elim (hg.nd b ds hb hN).1 (fun ⟨o, e, k, _, h⟩ => (hg.nd b ds hb hN).2 o e k h), (hg.nd b ds hb hN).2⟩ }

theorem dObj_other (hg : GInv Z D β w) {o e b k : Nat} (ho : p o = false) (hb : β o e = some (b, k)) (hd : dObj D β p b) : D b := by
  rcases hd with hd | ⟨o', e', k', hp, hb'⟩
  · exact hd
  · have := hg.inj _ _ _ _ _ _ _ hb hb'
    subst this
    simp [ho] at hp

theorem frzEnv_rep [Cp] (hobj : ∀ (o : Nat) x, p o = true → h[o]? = some x → ObjOk D β w o x) (hD : ∀ b, D b → D2 b) (hβ1 : ∀ o e b k, p o = true → β o e = some (b, k) → D2 b)
    (hβ2 : ∀ o e y, p o = false → β o e = some y → β2 o e = some y) {tmps : Array Value} {env : Env} (he : EnvRep D β w tmps env) : EnvRep D2 β2 w tmps (frzEnv h p env) := by
  refine ⟨by simp [frzEnv, he.1], fun i v x hv hx => ?_⟩
  simp only [frzEnv, List.getElem?_map, Option.map_eq_some_iff] at hx
  obtain ⟨y, hy, rfl⟩ := hx
  split
  · rename_i z hz
    exact frz_rep hobj hD hβ1 hβ2 hz (he.2 i v y hv hy)
  · exact .dead v

/-- β below n. -/
def bBelow (β : Bet) (n : Nat) : Bet := fun o e => if o < n then β o e else none

theorem bBelow_some {n o e : Nat} {y : Nat × Nat} (h : bBelow β n o e = some y) : o < n ∧ β o e = some y := by
  unfold bBelow at h
  split at h
  · exact ⟨by assumption, h⟩
  · simp at h

theorem GInv.below (hg : GInv Z D β w) (n : Nat) : GInv Z D (bBelow β n) w :=
  { hg with
    blt := fun o e b k h => hg.blt o e b k (bBelow_some h).2
    inj := fun o e b k o' e' k' h h' => hg.inj o e b k o' e' k' (bBelow_some h).2 (bBelow_some h').2
    nd := fun b ds hb hN => ⟨(hg.nd b ds hb hN).1, fun o e k h => (hg.nd b ds hb hN).2 o e k (bBelow_some h).2⟩ }

theorem shrink_ok [Cp] {n : Nat} {env env' : Env} (hs : shrink n env h = some (env', h')) (hi : Inv Z D β h w) : ∃ D2 β2, Inv Z D2 β2 h' w ∧ (∀ tmps, EnvRep D β w tmps env → EnvRep D2 β2 w tmps env') ∧
    (∀ b, D b → D2 b) ∧ (∀ o e y, o < n → β o e = some y → β2 o e = some y) ∧ h'.length = min n h.length := by
  unfold shrink at hs
  split at hs
  · rename_i hl
    simp at hs
    obtain ⟨rfl, rfl⟩ := hs
    exact ⟨D, β, hi, fun _ h => h, fun _ h => h, fun _ _ _ _ h => h, by omega⟩
  · rename_i hl
    split at hs
    · rename_i h2 hm
      simp at hs
      obtain ⟨rfl, rfl⟩ := hs
      obtain ⟨q1, q2⟩ := mapO_get hm
      have hlen : h2.length = n := by rw [← q1]; simp; omega
      have hobj : ∀ (o : Nat) x, fromB n o = true → h[o]? = some x → ObjOk D β w o x := fun o x _ hx => hi.obj o x hx
      have hD : ∀ b, D b → dObj D β (fromB n) b := fun b hb => .inl hb
      have hβ1 : ∀ o e b k, fromB n o = true → β o e = some (b, k) → dObj D β (fromB n) b := fun o e b k hp hb => .inr ⟨o, e, k, hp, hb⟩
      have hβ2 : ∀ o e y, fromB n o = false → β o e = some y → bBelow β n o e = some y := by
        intro o e y hp hb
        simp [fromB] at hp
        simp [bBelow, hp, hb]
      have hβ3 : ∀ o e y, fromB n o = false → bBelow β n o e = some y → β o e = some y := fun o e y _ hb => (bBelow_some hb).2
      refine ⟨dObj D β (fromB n), bBelow β n, ⟨(hi.g.dObj _).below n, fun o y hy => ?_, fun o e y hy => by rw [hlen]; exact (bBelow_some hy).1⟩, fun tmps he => frzEnv_rep hobj hD hβ1 hβ2 he, hD, fun o e y ho hb => hβ2 o e y (by simp [fromB]; omega) hb, by omega⟩
      have ho : o < n := by rw [← hlen]; exact (List.getElem?_eq_some_iff.1 hy).1
      have hx : (h.take n)[o]? = some h[o] := by simp [ho]
      have hx' : h[o]? = some h[o] := by simp
      have hp : fromB n o = false := by simp [fromB]; omega
      exact frzObj_ok hobj hD hβ1 hβ2 hβ3 (fun o e b k hp hb hd => dObj_other hi.g hp hb hd) hp (hi.obj o _ hx') (q2 o _ y hx hy)
    · simp at hs

theorem goneOf_get {p : Nat → Bool} : ∀ {l : Heap} {i : Nat} {l' : Heap}, goneOf h p i l = some l' → l.length = l'.length ∧ ∀ (j : Nat) x y, l[j]? = some x → l'[j]? = some y → (p (i + j) = true ∧ y = .gone) ∨ (p (i + j) = false ∧ frzObj h p x = some y) := by
  intro l
  induction l with
  | nil => intro i l' hg; simp [goneOf] at hg; subst hg; exact ⟨rfl, by simp⟩
  | cons a r ih =>
    intro i l' hg
    simp only [goneOf] at hg
    split at hg
    · rename_i y ys hy hys
      simp at hg; subst hg
      obtain ⟨h1, h2⟩ := ih hys
      refine ⟨by simp [h1], fun j x z hx hz => ?_⟩
      cases j with
      | zero =>
        simp at hx hz
        subst hx; subst hz
        by_cases hp : p i = true
        · simp [hp] at hy; exact .inl ⟨hp, hy.symm⟩
        · simp [hp] at hy; exact .inr ⟨by simpa using hp, hy⟩
      | succ j =>
        have := h2 j x z (by simpa using hx) (by simpa using hz)
        have e : i + 1 + j = i + (j + 1) := by omega
        rwa [e] at this
    · simp at hg

theorem freeze_ok [Cp] {os : List Nat} {env env' : Env} (hs : freeze os env h = some (env', h')) (hi : Inv Z D β h w) : ∃ D2, Inv Z D2 β h' w ∧ (∀ tmps, EnvRep D β w tmps env → EnvRep D2 β w tmps env') ∧
    (∀ b, D b → D2 b) ∧ h'.length = h.length := by
  unfold freeze at hs
  split at hs
  · rename_i h2 hm
    simp only [Option.some.injEq, Prod.mk.injEq] at hs
    obtain ⟨rfl, rfl⟩ := hs
    generalize hpe : (fun o => os.contains o) = p at hm ⊢
    obtain ⟨q1, q2⟩ := goneOf_get hm
    have hobj : ∀ (o : Nat) x, p o = true → h[o]? = some x → ObjOk D β w o x := fun o x _ hx => hi.obj o x hx
    have hD : ∀ b, D b → dObj D β p b := fun b hb => .inl hb
    have hβ1 : ∀ o e b k, p o = true → β o e = some (b, k) → dObj D β p b := fun o e b k hp hb => .inr ⟨o, e, k, hp, hb⟩
    refine ⟨dObj D β p, ⟨hi.g.dObj _, fun o y hy => ?_, fun o e y hy => by rw [← q1]; exact hi.dom o e y hy⟩, fun tmps he => frzEnv_rep hobj hD hβ1 (fun _ _ _ _ h => h) he, hD, q1.symm⟩
    have ho : o < h.length := by rw [q1]; exact (List.getElem?_eq_some_iff.1 hy).1
    have hx : h[o]? = some h[o] := by simp
    rcases q2 o _ y hx hy with ⟨hp, rfl⟩ | ⟨hp, hf⟩
    · trivial
    · simp only [Nat.zero_add] at hp
      exact frzObj_ok hobj hD hβ1 (fun _ _ _ _ h => h) (fun _ _ _ _ h => h) (fun o e b k hp hb hd => dObj_other hi.g hp hb hd) hp (hi.obj o _ hx) hf
  · simp at hs

theorem keepOnly_rep {ts : List Tmp} {env : Env} {tmps : Array Value} (he : EnvRep D β w tmps env) : EnvRep D β w tmps (keepOnly ts env) := by
  refine ⟨by simp [keepOnly, he.1], fun i v x hv hx => ?_⟩
  simp only [keepOnly, List.getElem?_mapIdx, Option.map_eq_some_iff] at hx
  obtain ⟨y, hy, rfl⟩ := hx
  split
  · exact he.2 i v y hv hy
  · exact .dead v

theorem tidy_rep {live : Option (List Tmp)} {env : Env} {tmps : Array Value} (he : EnvRep D β w tmps env) : EnvRep D β w tmps (tidy live env) := by
  unfold tidy
  split
  · exact keepOnly_rep he
  · exact he

end Go.Abs
