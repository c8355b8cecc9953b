/- append and copy. -/
import Derived.Test.YtkamfflnfnjbeaaAbsOpE
set_option linter.unusedSimpArgs false
set_option linter.unusedVariables false
namespace Go.Abs
open Go

variable {P : Program} {Z : Base} {D : Dom} {β : Bet} {w : World} {h h' : Heap}

theorem ext_drew (D : Dom) (β : Bet) (w : World) : Ext D β w D β w.drew :=
  ⟨fun _ h => h, fun _ _ => rfl, fun _ _ _ h => h, fun _ _ h => h, fun _ _ h => h, fun _ L h => ⟨L, h⟩, Nat.le_refl _⟩

theorem frm_drew' {S : Nat → Prop} (D : Dom) (β : Bet) (w : World) : Frm S D β w D β w.drew :=
  ⟨ext_drew D β w, fun _ _ _ _ _ _ => ⟨rfl, id⟩, fun _ _ _ => rfl⟩

theorem GInv.drew (hg : GInv Z D β w) : GInv Z D β w.drew := ⟨hg.size0, hg.old, hg.os, hg.out, hg.froz, hg.dlt, hg.dn, hg.blt, hg.inj, hg.nd⟩

theorem zeroCells_size (z : Array Value) (n : Nat) : (Builtin.zeroCells z n).size = n * z.size := by simp [Builtin.zeroCells]

theorem zeroCells_some {elem : TypeId} {size : Nat} (hz : zeroCells P elem = some size) : ∃ z, (∀ w, (zeroValue elem).run P w = .ok z w) ∧ z.cells.size = size := by
  unfold zeroCells at hz
  cases hzo : zeroOf P elem with
  | none => simp [hzo] at hz
  | some x =>
    obtain ⟨z, hok, rfl, hzr⟩ := zeroOf_val hzo
    simp [hzo] at hz
    refine ⟨z, hzr, ?_⟩
    have := (Rep.cells (D := fun _ => True) (β := fun _ _ => none) (w := default) (.t _ _ (okVal_rep hok)) (by simp)).1
    rw [this, hz]

/-- The appended elements go into a new row. -/
theorem append_new [Cp] {t u elem eu ty : TypeId} {size bytes : Nat} {s x : AV} {vs vx : Value} {xs ys : List AV} (hg : GInv Z D β w) (ht : typ P t = some (.slice elem)) (hu : typ P u = some (.slice eu))
    (hs : szOf P elem = some size) (hb : byOf P elem = some bytes) (hb0 : bytes ≠ 0) (hz : zeroCells P elem = some size) (hys : elemsOf h size s = some ys) (hxs : elemsOf h size x = some xs)
    (hvs : Rep D β w vs s) (hvx : Rep D β w vx x) (hcap : ∀ base cap, vs = .slice base ys.length cap → cap < ys.length + xs.length) (hform : ∃ base cap, vs = .slice base ys.length cap)
    (hroom : (ys.length + xs.length) * bytes ≤ roomB) (hn : ∀ e, β h.length e = none) (tch : List Nat) (hobj : ∀ (o : Nat) y, o ∈ tch → h[o]? = some y → ObjOk D β w o y)
    (hts : ∀ o ∈ objsOf s, o ∈ tch) (htx : ∀ o ∈ objsOf x, o ∈ tch) :
    Done Z D β w (h ++ [.row size (ys ++ xs) 0]) (stepS tch h (h ++ [.row size (ys ++ xs) 0])) (.ms h.length (ys.length + xs.length) 0 (ys.length + xs.length) size false)
      ((do pure (Next.value (← Builtin.append_ #[t, u] ty #[vs, vx])) : Sem Next).run P w) := by
  obtain ⟨base, cap, rfl⟩ := hform
  obtain ⟨z, hzr, hzs⟩ := zeroCells_some hz
  have hobj' : ∀ (o : Nat) y, o ∈ tch → h[o]? = some y → ObjOk D β w.drew o y := fun o y ho hy => (hobj o y ho hy).frame (frm_drew' (S := fun _ => False) D β w) (fun hf => hf)
  obtain ⟨c1, l1, r1, f1, s1⟩ := run_elems (P := P) (w := w.drew) hys (hvs.mono (ext_drew D β w)) (fun o y ho hy => hobj' o y (hts o ho) hy)
  obtain ⟨c2, l2, r2, f2, s2⟩ := run_elems (P := P) (w := w.drew) hxs (hvx.mono (ext_drew D β w)) (fun o y ho hy => hobj' o y (htx o ho) hy)
  have hlen : ∀ w', (Builtin.lenOf vx).run P w' = .ok xs.length w' := by
    intro w'
    cases vx <;> simp [Builtin.lenOf, stuck, Sem.run, pure] at l2 ⊢ <;> exact l2
  obtain ⟨newCap, hnc, hrun⟩ := run_append_grows (w := w) (ty := ty) ht hu hs hb hb0 hzr (hcap base cap rfl) hroom hlen r1 r2
  have hf := (f1.append s1 f2).more (d := Builtin.zeroCells z.cells (newCap - (ys.length + xs.length)))
  have hl : (ys ++ xs).length = ys.length + xs.length := by simp
  have hd := newSlice_done (Z := Z) (h := h) (ty := elem) (w0 := w) (w := w.drew) (cap := newCap) (clip := false) (tch := tch) (frm_drew' D β w) hg.drew hf hn (by rw [hl]; exact hnc) (by simp)
    (by
      simp only [Array.size_append, zeroCells_size, s1, s2, hzs]
      rw [← Nat.add_mul, ← Nat.add_mul]
      exact Nat.mul_le_mul_right _ (by omega)) hobj
  rw [hl] at hd
  simp only [Sem.run_bind, hrun, Result.andThen, Sem.run_pure]
  exact hd

theorem run_append_fits {t u elem eu ty : TypeId} {size sLen sCap n : Nat} {base : Option Addr} {vx : Value} {new : Array Value} {w' : World} (ht : typ P t = some (.slice elem)) (hu : typ P u = some (.slice eu))
    (hs : szOf P elem = some size) (hcap : sLen + n ≤ sCap) (hlen : (Builtin.lenOf vx).run P w = .ok n w) (hnew : (Builtin.firstCells size n vx).run P w = .ok new w)
    (hst : ∀ a, base = some a → (storeCells (a.add (sLen * size)) new.toList).run P w = .ok () w') (hb : base = none → w' = w) :
    (Builtin.append_ #[t, u] ty #[.slice base sLen sCap, vx]).run P w = .ok (.slice base (sLen + n) sCap) w' := by
  simp only [Builtin.append_, Sem.run_bind, run_underlying ht, run_underlying hu, run_sizeOf hs, Result.andThen, List.getElem?_toArray, List.getElem?_cons_zero, List.getElem?_cons_succ, Sem.run_pure, hlen]
  cases base with
  | none => simp [Result.andThen, hlen, hnew, hcap, hb rfl]
  | some a => simp [Result.andThen, hlen, hnew, hcap, hst a rfl]

/-- Nothing is appended: nothing changes. -/
theorem append_none [Cp] {t u elem eu ty : TypeId} {size : Nat} {s x : AV} {vs vx : Value} (hg : GInv Z D β w) (ht : typ P t = some (.slice elem)) (hu : typ P u = some (.slice eu))
    (hs : szOf P elem = some size) (hxs : elemsOf h size x = some []) (hvs : Rep D β w vs s) (hvx : Rep D β w vx x) (hform : ∃ base len cap, vs = .slice base len cap ∧ len ≤ cap)
    (tch : List Nat) (hobj : ∀ (o : Nat) y, o ∈ tch → h[o]? = some y → ObjOk D β w o y) (htx : ∀ o ∈ objsOf x, o ∈ tch) :
    Done Z D β w h (stepS tch h h) s ((do pure (Next.value (← Builtin.append_ #[t, u] ty #[vs, vx])) : Sem Next).run P w) := by
  obtain ⟨base, len, cap, rfl, hlc⟩ := hform
  obtain ⟨c2, l2, r2, f2, s2⟩ := run_elems (P := P) hxs hvx (fun o y ho hy => hobj o y (htx o ho) hy)
  simp at l2 r2 s2
  subst s2
  have hrun := run_append_fits (w := w) (w' := w) (ty := ty) (base := base) (sLen := len) (sCap := cap) (n := 0) ht hu hs (by omega) l2 r2 (fun a _ => by simp [storeCells, Sem.run, pure]) (fun _ => rfl)
  simp only [Sem.run_bind, hrun, Result.andThen, Sem.run_pure]
  exact Done.pure hg hvs (fun o y ho hy => by
    rcases ho with ho | ho
    · exact hobj o y ho hy
    · omega)

theorem elems_ms {o e i len k : Nat} {clip : Bool} {size : Nat} {ys : List AV} (hy : elemsOf h size (.ms o e i len k clip) = some ys) : ∃ k2 elems mr, h[o]? = some (.row k2 elems mr) ∧ k = size ∧ mr ≤ e ∧ e ≤ elems.length ∧ i + len ≤ e ∧ ys = (elems.drop i).take len := by
  simp only [elemsOf] at hy
  split at hy
  · rename_i k2 elems mr ho
    by_cases hc : k = size ∧ mr ≤ e ∧ e ≤ elems.length ∧ i + len ≤ e
    · rw [if_pos hc] at hy
      simp at hy
      exact ⟨k2, elems, mr, ho, hc.1, hc.2.1, hc.2.2.1, hc.2.2.2, hy.symm⟩
    · simp [hc] at hy
  · simp at hy

theorem ms_inv {v : Value} {o e i len k : Nat} {clip : Bool} (hr : Rep D β w v (.ms o e i len k clip)) :
    (len = 0 ∧ ∃ a, v = .slice a 0 0) ∨ ∃ b cap n, β o e = some (b, k) ∧ i + len ≤ e ∧ len ≤ cap ∧ (clip = true → cap = len) ∧ rowSize w b = some n ∧ (i + cap) * k ≤ n ∧ v = .slice (some ⟨b, i * k, none⟩) len cap := by
  cases hr with
  | ms0 a => exact .inl ⟨rfl, a, rfl⟩
  | ms _ _ _ _ _ _ b cap n h1 h2 h3 h4 h5 h6 => exact .inr ⟨b, cap, n, h1, h2, h3, h4, h5, h6, rfl⟩

/-- The appended elements go behind the row's end: in place, or into a new block of the same object. -/
theorem append_grow [Cp] {t u elem eu ty : TypeId} {size bytes : Nat} {x : AV} {vs vx : Value} {xs : List AV} {o : Nat} {elems : List AV} {mr k2 : Nat} (hg : GInv Z D β w) (ht : typ P t = some (.slice elem)) (hu : typ P u = some (.slice eu))
    (hs : szOf P elem = some size) (hb : byOf P elem = some bytes) (hb0 : bytes ≠ 0) (hz : zeroCells P elem = some size) (hrow : h[o]? = some (.row k2 elems mr)) (hmr : mr ≤ elems.length)
    (hxs : elemsOf h size x = some xs) (hx0 : 0 < xs.length) (hvs : Rep D β w vs (.ms o elems.length 0 elems.length size false)) (hvx : Rep D β w vx x)
    (hroom : (elems.length + xs.length) * bytes ≤ roomB) (tch : List Nat) (hobj : ∀ (o : Nat) y, o ∈ tch → h[o]? = some y → ObjOk D β w o y)
    (hto : o ∈ tch) (htx : ∀ o ∈ objsOf x, o ∈ tch) (hk2 : k2 = size) :
    Done Z D β w (h.set o (.row size (elems ++ xs) mr)) (stepS tch h (h.set o (.row size (elems ++ xs) mr))) (.ms o (elems.length + xs.length) 0 (elems.length + xs.length) size false)
      ((do pure (Next.value (← Builtin.append_ #[t, u] ty #[vs, vx])) : Sem Next).run P w) := by
  have hlt : o < h.length := (List.getElem?_eq_some_iff.1 hrow).1
  have hrok : RowOk D β w o k2 elems mr := hobj o _ hto hrow
  have hnone : ∀ e, elems.length < e → β o e = none := by
    intro e he
    cases hbe : β o e with
    | none => rfl
    | some y =>
      have := (hrok.2 e y.1 y.2 hbe).2.2.1
      omega
  have hk := hk2
  subst hk
  have hyse : elemsOf h k2 (.ms o elems.length 0 elems.length k2 false) = some elems := by
    simp [elemsOf, hrow, hmr]
  have other : ∀ (D' : Dom) (β' : Bet) (w' : World), Frm (fun q => q = o) D β w D' β' w' → RowOk D' β' w' o k2 (elems ++ xs) mr → ∀ (o' : Nat) y, stepS tch h (h.set o (.row k2 (elems ++ xs) mr)) o' → (h.set o (.row k2 (elems ++ xs) mr))[o']? = some y → ObjOk D' β' w' o' y := by
    intro D' β' w' hfr hro o' y ho' hy
    by_cases e : o' = o
    · subst e
      simp [hlt] at hy
      subst hy
      exact hro
    · rw [List.getElem?_set, if_neg (Ne.symm e)] at hy
      rcases ho' with ho' | ⟨h1, h2⟩
      · exact (hobj o' y ho' hy).frame hfr e
      · simp at h2; omega
  have sub : ∀ q, q = o → stepS tch h (h.set o (.row k2 (elems ++ xs) mr)) q := fun q hq => by subst hq; exact .inl hto
  have grow : ∀ base cap, vs = .slice base elems.length cap → cap < elems.length + xs.length →
      Done Z D β w (h.set o (.row k2 (elems ++ xs) mr)) (stepS tch h (h.set o (.row k2 (elems ++ xs) mr))) (.ms o (elems.length + xs.length) 0 (elems.length + xs.length) k2 false)
      ((do pure (Next.value (← Builtin.append_ #[t, u] ty #[vs, vx])) : Sem Next).run P w) := by
    intro base cap hve hcap
    subst hve
    obtain ⟨z, hzr, hzs⟩ := zeroCells_some hz
    have hobj' : ∀ (o : Nat) y, o ∈ tch → h[o]? = some y → ObjOk D β w.drew o y := fun o y ho hy => (hobj o y ho hy).frame (frm_drew' (S := fun _ => False) D β w) (fun hf => hf)
    obtain ⟨c1, l1, r1, f1, s1⟩ := run_elems (P := P) (w := w.drew) hyse (hvs.mono (ext_drew D β w)) (fun o' y ho hy => by simp [objsOf] at ho; subst ho; exact hobj' _ y hto hy)
    obtain ⟨c2, l2, r2, f2, s2⟩ := run_elems (P := P) (w := w.drew) hxs (hvx.mono (ext_drew D β w)) (fun o y ho hy => hobj' o y (htx o ho) hy)
    have hlen : ∀ w', (Builtin.lenOf vx).run P w' = .ok xs.length w' := by
      intro w'
      cases vx <;> simp [Builtin.lenOf, stuck, Sem.run, pure] at l2 ⊢ <;> exact l2
    obtain ⟨newCap, hnc, hrun⟩ := run_append_grows (w := w) (ty := ty) ht hu hs hb hb0 hzr hcap hroom hlen r1 r2
    have hf := (f1.append s1 f2).more (d := Builtin.zeroCells z.cells (newCap - (elems.length + xs.length)))
    simp only [Sem.run_bind, hrun, Result.andThen, Sem.run_pure]
    -- the new block
    have fa : Frm (fun q => q = o) D β w D β (w.drew.alloc (.cells (c1 ++ c2 ++ Builtin.zeroCells z.cells (newCap - (elems.length + xs.length))) elem (0, 0))) := (frm_drew' D β w).trans (frm_alloc hg.drew _)
    have ga : GInv Z D β (w.drew.alloc (.cells (c1 ++ c2 ++ Builtin.zeroCells z.cells (newCap - (elems.length + xs.length))) elem (0, 0))) := hg.drew.alloc _ (fun _ _ _ h => by cases h; rfl)
    have fb := fa.trans (frm_bAdd (D := D) (w := w.drew.alloc (.cells (c1 ++ c2 ++ Builtin.zeroCells z.cells (newCap - (elems.length + xs.length))) elem (0, 0))) (b := w.heap.size) (k := k2) (S := fun q => q = o) rfl (hnone (elems.length + xs.length) (by omega)))
    have gb := ga.bAdd (o := o) (e := elems.length + xs.length) (b := w.heap.size) (k := k2) hg.size0 (by simp) (fun o' e' k' hb' => by have := (hg.blt _ _ _ _ hb').2; omega) (fun ds hx => by have hq := heap_alloc_new (w := w.drew) (.cells (c1 ++ c2 ++ Builtin.zeroCells z.cells (newCap - (elems.length + xs.length))) elem (0, 0)); rw [show w.drew.heap.size = w.heap.size from rfl, hx] at hq; cases hq)
    have hnewb : (w.drew.alloc (.cells (c1 ++ c2 ++ Builtin.zeroCells z.cells (newCap - (elems.length + xs.length))) elem (0, 0))).heap[w.heap.size]? = some (.cells (c1 ++ c2 ++ Builtin.zeroCells z.cells (newCap - (elems.length + xs.length))) elem (0, 0)) := heap_alloc_new (w := w.drew) _
    refine ⟨_, _, D, _, rfl, ?_, fb.mono sub, gb, other _ _ _ fb ?_, dom_bAdd (by simp [hlt])⟩
    · have := Rep.ms (D := D) (w := w.drew.alloc (.cells (c1 ++ c2 ++ Builtin.zeroCells z.cells (newCap - (elems.length + xs.length))) elem (0, 0))) o (elems.length + xs.length) 0 (elems.length + xs.length) k2 false w.heap.size newCap (c1 ++ c2 ++ Builtin.zeroCells z.cells (newCap - (elems.length + xs.length))).size
        (bAdd_same β o (elems.length + xs.length) w.heap.size k2) (by omega) hnc (by simp) (by simp only [rowSize, hnewb]) (by
          simp only [Array.size_append, zeroCells_size, s1, s2, hzs, Nat.zero_add]
          rw [← Nat.add_mul, ← Nat.add_mul]
          exact Nat.mul_le_mul_right _ (by omega))
      simpa using this
    · refine ⟨hf.2.1, fun e b k' hb' => ?_⟩
      rcases bAdd_cases hb' with ⟨_, rfl, hy⟩ | ⟨hb', _⟩
      · cases hy
        refine ⟨fun hD => by have := hg.dlt _ hD; omega, rfl, by simp, fun _ => ⟨_, elem, hnewb, by simpa using hf.1, fun i y j t _ hy ht' => ?_⟩⟩
        obtain ⟨v, p1, p2, p3⟩ := hf.2.2 i y j t hy ht'
        exact ⟨v, p1, p2, p3.mono (((frm_alloc (S := fun q => q = o) hg.drew _).trans (frm_bAdd rfl (hnone (elems.length + xs.length) (by omega)))).ext)⟩
      · obtain ⟨q1, q2, q3, q4⟩ := hrok.2 e b k' hb'
        refine ⟨q1, q2, by simp; omega, fun hm => ?_⟩
        obtain ⟨c, ty', h1, h2, h3⟩ := q4 hm
        refine ⟨c, ty', ?_, h2, fun i y j t hi hy ht' => ?_⟩
        · have hbl := (hg.blt _ _ _ _ hb').2
          have e0 : (w.drew.alloc (.cells (c1 ++ c2 ++ Builtin.zeroCells z.cells (newCap - (elems.length + xs.length))) elem (0, 0))).heap[b]? = w.heap[b]? := heap_alloc_old (w := w.drew) hbl
          rw [e0]; exact h1
        · rw [List.getElem?_append_left (by omega)] at hy
          obtain ⟨v, p1, p2, p3⟩ := h3 i y j t hi hy ht'
          exact ⟨v, p1, p2, p3.mono fb.ext⟩
  rcases ms_inv hvs with ⟨hl, a, hv⟩ | ⟨b, cap, n, hbb, hle, hcapl, hclip, hn, hsz, hv⟩
  · exact grow a 0 (by rw [hl]; exact hv) (by omega)
  · subst hv
    by_cases hfit : elems.length + xs.length ≤ cap
    · -- there is room
      obtain ⟨hD, _, _, hcc⟩ := hrok.2 _ _ _ hbb
      obtain ⟨c, ty', h1, h2, h3⟩ := hcc hmr
      obtain ⟨c2, l2, r2, f2, s2⟩ := run_elems (P := P) hxs hvx (fun o y ho hy => hobj o y (htx o ho) hy)
      have hn' : n = c.size := by simpa [rowSize, h1] using hn.symm
      subst hn'
      have hroom2 : elems.length * k2 + c2.toList.length ≤ c.size := by
        have g1 : (elems.length + xs.length) * k2 ≤ cap * k2 := Nat.mul_le_mul_right k2 hfit
        have g2 : (elems.length + xs.length) * k2 = elems.length * k2 + xs.length * k2 := Nat.add_mul _ _ _
        have g3 : (0 + cap) * k2 = cap * k2 := by rw [Nat.zero_add]
        have g4 : c2.toList.length = xs.length * k2 := by simpa using s2
        omega
      have hokc : ∀ v ∈ c2.toList, okCell v = true := by
        intro v hv
        obtain ⟨j, hj, rfl⟩ := List.getElem_of_mem hv
        simp at hj
        rw [s2] at hj
        by_cases hk0 : k2 = 0
        · subst hk0; simp at hj
        · have hdiv : j / k2 < xs.length := (Nat.div_lt_iff_lt_mul (by omega)).2 hj
          have hmod : j % k2 < k2 := Nat.mod_lt _ (by omega)
          have hxd : xs[j / k2]? = some xs[j / k2] := by simp [hdiv]
          have hcl := f2.2.1 _ _ hxd
          have hxt : xs[j / k2].cells[j % k2]? = some xs[j / k2].cells[j % k2] := by simp [hcl, hmod]
          obtain ⟨v, p1, p2, _⟩ := f2.2.2 _ _ _ _ hxd hxt
          have hjj : j / k2 * k2 + j % k2 = j := by rw [Nat.mul_comm]; exact Nat.div_add_mod j k2
          rw [hjj] at p1
          have : c2.toList[j]? = some v := by simpa using p1
          have hv' : c2.toList[j] = v := by
            have := (List.getElem?_eq_some_iff.1 this).2
            exact this
          rw [hv']; exact p2
      have hst : ∀ a, some (⟨b, 0 * k2, none⟩ : Addr) = some a → (storeCells (a.add (elems.length * k2)) c2.toList).run P w = .ok () (wrote w b (elems.length * k2) c2.toList) := by
        intro a ha
        cases ha
        rw [addr_add]
        have := run_storeCells (P := P) c2.toList w b (elems.length * k2) 0 c ty' h1 (by simpa using hroom2) hokc
        simpa using this
      have hrun := run_append_fits (w := w) (ty := ty) (base := some ⟨b, 0 * k2, none⟩) (sLen := elems.length) (sCap := cap) ht hu hs hfit l2 r2 hst (by simp)
      simp only [Sem.run_bind, hrun, Result.andThen, Sem.run_pure]
      obtain ⟨fw, gw⟩ := frm_wrote (S := fun q => q = o) hg (off := elems.length * k2) (vs := c2.toList) rfl hbb hD h1 hroom2
      obtain ⟨e1, e2, e3, e4, c', e5, e6, e7⟩ := wrote_facts c2.toList w b (elems.length * k2) c ty' (0, 0) h1 hroom2
      have fb := fw.trans (frm_bAdd (D := D) (w := wrote w b (elems.length * k2) c2.toList) (b := b) (k := k2) (S := fun q => q = o) rfl (hnone (elems.length + xs.length) (by omega)))
      have gb := gw.bAdd (o := o) (e := elems.length + xs.length) (b := b) (k := k2) (hg.blt _ _ _ _ hbb).1 (by rw [e1]; exact (hg.blt _ _ _ _ hbb).2) (fun o' e' k' hb' => hg.inj _ _ _ _ _ _ _ hb' hbb) (fun ds hx => (gw.nd _ ds hx (hg.blt _ _ _ _ hbb).1).2 _ _ _ hbb)
      have hrs : rowSize (wrote w b (elems.length * k2) c2.toList) b = some c.size := by simp only [rowSize, e5, e6]
      refine ⟨_, _, D, _, rfl, ?_, fb.mono sub, gb, other _ _ _ fb ?_, dom_bAdd (by simp [hlt])⟩
      · exact Rep.ms (D := D) (w := wrote w b (elems.length * k2) c2.toList) o (elems.length + xs.length) 0 (elems.length + xs.length) k2 false b cap c.size
          (bAdd_same β o (elems.length + xs.length) b k2) (by omega) hfit (by simp) hrs hsz
      · -- the old cells are as they were, the new ones behind them
        have hcell : ∀ (i : Nat) y (j : Nat) tt, (elems ++ xs)[i]? = some y → y.cells[j]? = some tt → ∀ (hcont : ∀ (i : Nat) x (j : Nat) t, i < elems.length → elems[i]? = some x → x.cells[j]? = some t → ∃ v, c[i * k2 + j]? = some v ∧ okCell v = true ∧ Rep D β w v t),
            ∃ v, c'[i * k2 + j]? = some v ∧ okCell v = true ∧ Rep D (bAdd β o (elems.length + xs.length) b k2) (wrote w b (elems.length * k2) c2.toList) v tt := by
          intro i y j tt hy ht' hcont
          rw [e7]
          rw [List.getElem?_append] at hy
          split at hy
          · rename_i hi
            have hjk : j < k2 := by rw [← hrok.1 i y hy]; exact (List.getElem?_eq_some_iff.1 ht').1
            have g1 := Nat.mul_le_mul_right k2 (show i + 1 ≤ elems.length from hi)
            have g2 : (i + 1) * k2 = i * k2 + k2 := Nat.succ_mul i k2
            rw [if_neg (by omega)]
            obtain ⟨v, p1, p2, p3⟩ := hcont i y j tt hi hy ht'
            exact ⟨v, p1, p2, p3.mono fb.ext⟩
          · rename_i hi
            obtain ⟨v, p1, p2, p3⟩ := f2.2.2 _ y j tt hy ht'
            have g1 : i * k2 = elems.length * k2 + (i - elems.length) * k2 := by rw [← Nat.add_mul]; congr 1; omega
            have hlt2 := (Array.getElem?_eq_some_iff.1 p1).1
            rw [if_pos (by simp only [Array.length_toList]; omega)]
            have g2 : i * k2 + j - elems.length * k2 = (i - elems.length) * k2 + j := by omega
            rw [g2]
            exact ⟨v, by simpa using p1, p2, p3.mono fb.ext⟩
        refine ⟨fun i y hy => ?_, fun e b' k' hb' => ?_⟩
        · rw [List.getElem?_append] at hy
          split at hy
          · exact hrok.1 i y hy
          · exact f2.2.1 _ y hy
        · rcases bAdd_cases hb' with ⟨_, rfl, hy⟩ | ⟨hb', _⟩
          · cases hy
            refine ⟨hD, rfl, by simp, fun _ => ⟨c', ty', e5, ?_, fun i y j tt _ hy ht' => hcell i y j tt hy ht' h3⟩⟩
            rw [e6]
            have g1 : (elems.length + xs.length) * k2 = elems.length * k2 + xs.length * k2 := Nat.add_mul _ _ _
            have g4 : c2.toList.length = xs.length * k2 := by simpa using s2
            omega
          · obtain ⟨q1, q2, q3, q4⟩ := hrok.2 e b' k' hb'
            refine ⟨q1, q2, by simp; omega, fun hm => ?_⟩
            obtain ⟨c3, ty3, h1', h2', h3'⟩ := q4 hm
            by_cases hbe : b' = b
            · subst hbe
              rw [h1] at h1'
              cases h1'
              refine ⟨c', ty', e5, by rw [e6]; exact h2', fun i y j tt hi hy ht' => ?_⟩
              have hy0 : elems[i]? = some y := by rw [List.getElem?_append_left (by omega)] at hy; exact hy
              have hjk : j < k2 := by rw [← hrok.1 i y hy0]; exact (List.getElem?_eq_some_iff.1 ht').1
              have g1 := Nat.mul_le_mul_right k2 (show i + 1 ≤ elems.length by omega)
              have g2 : (i + 1) * k2 = i * k2 + k2 := Nat.succ_mul i k2
              rw [e7, if_neg (by omega)]
              obtain ⟨v, p1, p2, p3⟩ := h3' i y j tt hi hy0 ht'
              exact ⟨v, p1, p2, p3.mono fb.ext⟩
            · refine ⟨c3, ty3, by rw [e4 b' hbe]; exact h1', h2', fun i y j tt hi hy ht' => ?_⟩
              rw [List.getElem?_append_left (by omega)] at hy
              obtain ⟨v, p1, p2, p3⟩ := h3' i y j tt hi hy ht'
              exact ⟨v, p1, p2, p3.mono fb.ext⟩
    · exact grow _ cap rfl (by omega)

end Go.Abs
