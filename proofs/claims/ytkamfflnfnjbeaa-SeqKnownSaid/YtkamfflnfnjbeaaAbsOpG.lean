/- append, copy, literals of slices, make: each as the evaluator has it. -/
import Derived.Test.YtkamfflnfnjbeaaAbsOpF
set_option linter.unusedSimpArgs false
set_option linter.unusedVariables false
namespace Go.Abs
open Go

variable {P : Program} {Z : Base} {D : Dom} {β : Bet} {w : World} {h h' : Heap}

theorem aAppend_done [Cp] {t u eu ty : TypeId} {s x v : AV} {vs vx : Value} (hg : GInv Z D β w) (ha : aAppend P t s x h = some (v, h')) (hu : typ P u = some (.slice eu)) (hvs : Rep D β w vs s) (hvx : Rep D β w vx x)
    (hn : h.length < h'.length → ∀ e, β h.length e = none) (hobj : ∀ (o : Nat) y, o ∈ objsOf s ++ objsOf x → h[o]? = some y → ObjOk D β w o y) :
    Done Z D β w h' (stepS (objsOf s ++ objsOf x) h h') v ((do pure (Next.value (← Builtin.append_ #[t, u] ty #[vs, vx])) : Sem Next).run P w) ∧
    (∀ o : Nat, ¬ stepS (objsOf s ++ objsOf x) h h' o → h'[o]? = h[o]?) ∧ h.length ≤ h'.length := by
  unfold aAppend at ha
  split at ha
  · rename_i elem ht
    split at ha
    · rename_i size bytes hs hb
      split at ha
      · rename_i xs hxs
        by_cases hc : size = 0 ∨ bytes = 0 ∨ zeroCells P elem ≠ some size
        · simp [hc] at ha
        · rw [if_neg hc] at ha
          have hb0 : bytes ≠ 0 := fun e => hc (.inr (.inl e))
          have hz : zeroCells P elem = some size := Classical.byContradiction fun e => hc (.inr (.inr e))
          have htx : ∀ o ∈ objsOf x, o ∈ objsOf s ++ objsOf x := fun o ho => List.mem_append_right _ ho
          have hts : ∀ o ∈ objsOf s, o ∈ objsOf s ++ objsOf x := fun o ho => List.mem_append_left _ ho
          split at ha
          · -- nil
            obtain ⟨rfl, _⟩ := hvs.toT.sc_eq
            split at ha
            · simp at ha
              obtain ⟨rfl, rfl⟩ := ha
              exact ⟨append_none hg ht hu hs hxs hvs hvx ⟨_, _, _, rfl, Nat.le_refl _⟩ _ hobj htx, fun _ _ => rfl, Nat.le_refl _⟩
            · rename_i y ys
              split at ha
              · rename_i hroom
                simp at ha
                obtain ⟨rfl, rfl⟩ := ha
                have hd := append_new (ys := []) (ty := ty) (h := h) hg ht hu hs hb hb0 hz (by simp [elemsOf]) hxs hvs hvx (fun base cap e => by cases e; simp) ⟨_, _, rfl⟩ (by simpa using hroom) (hn (by simp)) _ hobj hts htx
                refine ⟨by simpa using hd, fun o ho => append_new_get h _ _ o ho, by simp⟩
              · simp at ha
          · -- a slice whose capacity is its length
            rename_i k ys
            split at ha
            · simp at ha
              obtain ⟨rfl, rfl⟩ := ha
              obtain ⟨a, cap, rfl, hcap, _⟩ := Rep.slice_form hvs.toT
              exact ⟨append_none hg ht hu hs hxs hvs hvx ⟨_, _, _, rfl, hcap⟩ _ hobj htx, fun _ _ => rfl, Nat.le_refl _⟩
            · rename_i y zs
              split at ha
              · rename_i hroom
                simp at ha
                obtain ⟨rfl, rfl⟩ := ha
                obtain ⟨a, cap, rfl, hcap, hclip⟩ := Rep.slice_form hvs.toT
                have hyse : elemsOf h size (.t (.sl true k ys)) = some (ys.map .t) := by
                  cases ys with
                  | nil => simp [elemsOf]
                  | cons y0 ys0 =>
                    have : k = size := by simpa using hroom.2
                    simp [elemsOf, this]
                have hd := append_new (ys := ys.map .t) (ty := ty) (h := h) hg ht hu hs hb hb0 hz hyse hxs hvs hvx (fun base cap' e => by
                  simp at e
                  rw [← e.2, hclip rfl]; simp) ⟨a, cap, by simp⟩ (by simpa using hroom.1) (hn (by simp)) _ hobj hts htx
                refine ⟨by simpa using hd, fun o ho => append_new_get h _ _ o ho, by simp⟩
              · simp at ha
          · -- a slice of an object
            rename_i o e i len k clip
            split at ha
            · simp at ha
              obtain ⟨rfl, rfl⟩ := ha
              obtain ⟨a, cap, rfl, hcap, _⟩ := ms_form hvs
              exact ⟨append_none hg ht hu hs hxs hvs hvx ⟨_, _, _, rfl, hcap⟩ _ hobj htx, fun _ _ => rfl, Nat.le_refl _⟩
            · rename_i y zs
              split at ha
              · rename_i k2 elems mr ho
                split at ha
                · rename_i hcond
                  obtain ⟨hroom, rfl, hk2, hm, hil, hel⟩ := hcond
                  split at ha
                  · rename_i hcl
                    subst hcl
                    simp at ha
                    obtain ⟨rfl, rfl⟩ := ha
                    obtain ⟨a, cap, rfl, hcap, hclip⟩ := ms_form hvs
                    have hlen : ((elems.drop i).take len).length = len := by simp; omega
                    have hyse : elemsOf h k (.ms o e i len k true) = some ((elems.drop i).take len) := by
                      simp [elemsOf, ho, hm, hel, hil]
                    have hd := append_new (ys := (elems.drop i).take len) (ty := ty) (h := h) hg ht hu hs hb hb0 hz hyse hxs hvs hvx (fun base cap' e' => by
                      simp at e'
                      rw [← e'.2.2, hclip rfl, hlen]; simp) ⟨a, cap, by rw [hlen]⟩ (by rw [hlen]; simpa using hroom) (hn (by simp)) _ hobj hts htx
                    rw [hlen] at hd
                    refine ⟨by simpa using hd, fun o ho => append_new_get h _ _ o ho, by simp⟩
                  · rename_i hcl
                    have hcl' : clip = false := by simpa using hcl
                    subst hcl'
                    split at ha
                    · rename_i hend
                      obtain ⟨rfl, rfl, hee⟩ := hend
                      simp at ha
                      obtain ⟨rfl, rfl⟩ := ha
                      subst hee
                      have hd := append_grow (ty := ty) hg ht hu hs hb hb0 hz ho hm hxs (by simp) hvs hvx (by simpa using hroom) _ hobj (hts o (by simp [objsOf])) htx hk2
                      refine ⟨by simpa using hd, fun o' ho' => ?_, by simp⟩
                      rw [List.getElem?_set, if_neg]
                      rintro rfl
                      exact ho' (.inl (hts _ (by simp [objsOf])))
                    · simp at ha
                · simp at ha
              · simp at ha
          · simp at ha
      · simp at ha
    · simp at ha
  · simp at ha


theorem wrote_same {w : World} {b off : Nat} : wrote w b off [] = w := rfl

theorem aCopy_done [Cp] {t ty : TypeId} {at_ : Array TypeId} {d x v : AV} {vd vx : Value} (hg : GInv Z D β w) (ha : aCopy P t d x h = some (v, h')) (hat : at_[0]? = some t) (hvd : Rep D β w vd d) (hvx : Rep D β w vx x)
    (hobj : ∀ (o : Nat) y, o ∈ objsOf d ++ objsOf x → h[o]? = some y → ObjOk D β w o y) :
    Done Z D β w h' (stepS (objsOf d ++ objsOf x) h h') v ((do pure (Next.value (← Builtin.copy_ at_ ty #[vd, vx])) : Sem Next).run P w) ∧
    (∀ o : Nat, ¬ stepS (objsOf d ++ objsOf x) h h' o → h'[o]? = h[o]?) ∧ h.length ≤ h'.length := by
  unfold aCopy at ha
  split at ha
  · rename_i elem ht
    split at ha
    · rename_i size hs
      split at ha
      · rename_i xs hxs
        by_cases hz : size = 0
        · simp [hz] at ha
        · rw [if_neg hz] at ha
          obtain ⟨c2, l2, r2, f2, s2⟩ := run_elems (P := P) hxs hvx (fun o y ho hy => hobj o y (List.mem_append_right _ ho) hy)
          have nothing : ∀ a cap, vd = .slice a 0 cap → v = .t (.sc (.int .i64 0)) → h' = h →
              Done Z D β w h' (stepS (objsOf d ++ objsOf x) h h') v ((do pure (Next.value (← Builtin.copy_ at_ ty #[vd, vx])) : Sem Next).run P w) ∧
              (∀ o : Nat, ¬ stepS (objsOf d ++ objsOf x) h h' o → h'[o]? = h[o]?) ∧ h.length ≤ h'.length := by
            intro a cap e1 e2 e3
            subst e1; subst e2; subst e3
            have hf : (Builtin.firstCells size 0 vx).run P w = .ok #[] w := by
              cases vx with
              | slice a' l' c' => cases a' <;> simp [Builtin.firstCells, loadCells, loadCellsFrom, pure, Sem.run]
              | string s => simp [Builtin.firstCells, pure, Sem.run]
              | _ => simp [Builtin.lenOf, stuck, Sem.run] at l2
            have hrun : (Builtin.copy_ at_ ty #[.slice a 0 cap, vx]).run P w = .ok (.int .i64 0) w := by
              cases a with
              | none => simp [Builtin.copy_, hat, run_underlying ht, Result.andThen, l2, run_sizeOf hs, hf, goInt]
              | some a => simp [Builtin.copy_, hat, run_underlying ht, Result.andThen, l2, run_sizeOf hs, hf, goInt, storeCells]
            have hrun' : (do pure (Next.value (← Builtin.copy_ at_ ty #[.slice a 0 cap, vx])) : Sem Next).run P w = .ok (.value (.int .i64 0)) w := by
              simp only [Sem.run_bind, hrun, Result.andThen, Sem.run_pure]
            rw [hrun']
            exact ⟨Done.pure hg (.t _ _ (.sc _ rfl)) (fun o y ho hy => by
              rcases ho with ho | ho
              · exact hobj o y ho hy
              · omega), fun _ _ => rfl, Nat.le_refl _⟩
          split at ha
          · rename_i o e i len k clip
            split at ha
            · rename_i k2 elems mr ho
              split at ha
              · rename_i hcond
                obtain ⟨he, hil, rfl, hk2, hm⟩ := hcond
                subst hk2
                simp at ha
                obtain ⟨rfl, rfl⟩ := ha
                have holt : o < h.length := (List.getElem?_eq_some_iff.1 ho).1
                have hto : o ∈ objsOf (.ms o e i len k2 clip) ++ objsOf x := List.mem_append_left _ (by simp [objsOf])
                have hrok : RowOk D β w o k2 elems mr := hobj o _ hto ho
                have hmin : min xs.length len ≤ xs.length := Nat.min_le_left _ _
                have hmin2 : min xs.length len ≤ len := Nat.min_le_right _ _
                obtain ⟨c2, l2, r2, f2, s2⟩ := run_elems_first (P := P) hxs hvx hmin (fun o y ho hy => hobj o y (List.mem_append_right _ ho) hy)
                have hnl : (xs.take (min xs.length len)).length = min xs.length len := by simp
                have hElen : (elems.take i ++ (xs.take (min xs.length len) ++ elems.drop (i + min xs.length len))).length = elems.length := by simp; omega
                have hEget : ∀ j : Nat, (elems.take i ++ (xs.take (min xs.length len) ++ elems.drop (i + min xs.length len)))[j]? = if i ≤ j ∧ j < i + min xs.length len then (xs.take (min xs.length len))[j - i]? else elems[j]? := by
                  intro j
                  by_cases hj : j < i
                  · rw [if_neg (by omega), List.getElem?_append_left (by simp; omega), List.getElem?_take, if_pos hj]
                  · have hl1 : (elems.take i).length = i := by simp; omega
                    rw [List.getElem?_append_right (by omega), hl1]
                    by_cases hj2 : j < i + min xs.length len
                    · rw [if_pos (by omega), List.getElem?_append_left (by omega)]
                    · rw [if_neg (by omega), List.getElem?_append_right (by omega), hnl, List.getElem?_drop]
                      congr 1; omega
                have other : ∀ (w' : World), Frm (fun q => q = o) D β w D β w' → RowOk D β w' o k2 (elems.take i ++ (xs.take (min xs.length len) ++ elems.drop (i + min xs.length len))) e →
                    ∀ (o' : Nat) y, stepS (objsOf (.ms o e i len k2 clip) ++ objsOf x) h (h.set o (.row k2 (elems.take i ++ (xs.take (min xs.length len) ++ elems.drop (i + min xs.length len))) e)) o' →
                      (h.set o (.row k2 (elems.take i ++ (xs.take (min xs.length len) ++ elems.drop (i + min xs.length len))) e))[o']? = some y → ObjOk D β w' o' y := by
                  intro w' hfr hro o' y ho' hy
                  by_cases e0 : o' = o
                  · subst e0
                    simp [holt] at hy
                    subst hy
                    exact hro
                  · rw [List.getElem?_set, if_neg (Ne.symm e0)] at hy
                    rcases ho' with ho' | ⟨h1, h2⟩
                    · exact (hobj o' y ho' hy).frame hfr e0
                    · simp at h2; omega
                have hloc : ∀ o' : Nat, ¬ stepS (objsOf (.ms o e i len k2 clip) ++ objsOf x) h (h.set o (.row k2 (elems.take i ++ (xs.take (min xs.length len) ++ elems.drop (i + min xs.length len))) e)) o' →
                    (h.set o (.row k2 (elems.take i ++ (xs.take (min xs.length len) ++ elems.drop (i + min xs.length len))) e))[o']? = h[o']? := by
                  intro o' ho'
                  rw [List.getElem?_set, if_neg]
                  rintro rfl
                  exact ho' (.inl hto)
                have hsizes : ∀ (j : Nat) y, (elems.take i ++ (xs.take (min xs.length len) ++ elems.drop (i + min xs.length len)))[j]? = some y → y.cells.length = k2 := by
                  intro j y hy
                  rw [hEget j] at hy
                  split at hy
                  · exact f2.2.1 _ y hy
                  · exact hrok.1 j y hy
                rcases ms_inv hvd with ⟨hl, a, hv⟩ | ⟨b, cap, n, hbb, hle, hcapl, hclip, hn, hsz, hv⟩
                · -- nothing to copy to
                  subst hl
                  subst hv
                  have hf0 : (Builtin.firstCells k2 0 vx).run P w = .ok c2 w := by simpa using r2
                  have hc20 : c2 = #[] := by
                    have : c2.size = 0 := by simpa using s2
                    exact Array.eq_empty_of_size_eq_zero this
                  subst hc20
                  have hrun : (do pure (Next.value (← Builtin.copy_ at_ ty #[.slice a 0 0, vx])) : Sem Next).run P w = .ok (.value (.int .i64 0)) w := by
                    cases a with
                    | none => simp [Builtin.copy_, hat, run_underlying ht, Result.andThen, l2, run_sizeOf hs, hf0, goInt]
                    | some a => simp [Builtin.copy_, hat, run_underlying ht, Result.andThen, l2, run_sizeOf hs, hf0, goInt, storeCells]
                  rw [hrun]
                  have hEe : elems.take i ++ (xs.take (min xs.length 0) ++ elems.drop (i + min xs.length 0)) = elems := by simp
                  refine ⟨⟨_, w, D, β, rfl, .t _ _ (by simpa using RepT.sc _ rfl), .refl D β w, hg, other w (.refl D β w) ?_, fun o e y hy => .inl ⟨e, y, hy⟩⟩, hloc, by simp⟩
                  rw [hEe]
                  exact ⟨hrok.1, fun e' b k' hb' => let ⟨q1, q2, q3, q4⟩ := hrok.2 e' b k' hb'; ⟨q1, q2, q3, fun hle => q4 (by omega)⟩⟩
                · subst hv
                  obtain ⟨hD, _, _, hcc⟩ := hrok.2 _ _ _ hbb
                  obtain ⟨c, ty', h1, h2, h3⟩ := hcc hm
                  have g4 : c2.toList.length = min xs.length len * k2 := by simpa using s2
                  have hbd : i * k2 + c2.toList.length ≤ c.size := by
                    have g1 : (i + min xs.length len) * k2 ≤ e * k2 := Nat.mul_le_mul_right k2 (by omega)
                    have g2 : (i + min xs.length len) * k2 = i * k2 + min xs.length len * k2 := Nat.add_mul _ _ _
                    omega
                  have hokc : ∀ v ∈ c2.toList, okCell v = true := by
                    intro v hv
                    obtain ⟨j, hj, rfl⟩ := List.getElem_of_mem hv
                    rw [g4] at hj
                    have hdiv : j / k2 < min xs.length len := (Nat.div_lt_iff_lt_mul (by omega)).2 hj
                    have hmod : j % k2 < k2 := Nat.mod_lt _ (by omega)
                    have hxd : (xs.take (min xs.length len))[j / k2]? = some (xs.take (min xs.length len))[j / k2] := by rw [List.getElem?_eq_getElem (by rw [hnl]; exact hdiv)]
                    have hcl := f2.2.1 _ _ hxd
                    obtain ⟨v, p1, p2, _⟩ := f2.2.2 _ _ (j % k2) _ hxd (List.getElem?_eq_getElem (by rw [hcl]; exact hmod))
                    have hjj : j / k2 * k2 + j % k2 = j := by rw [Nat.mul_comm]; exact Nat.div_add_mod j k2
                    rw [hjj] at p1
                    have this : c2.toList[j]? = some v := by simpa using p1
                    have hv' : c2.toList[j] = v := (List.getElem?_eq_some_iff.1 this).2
                    rw [hv']; exact p2
                  have hst := run_storeCells (P := P) c2.toList w b (i * k2) 0 c ty' h1 (by simpa using hbd) hokc
                  simp only [Nat.add_zero] at hst
                  have hmin3 : Nat.min xs.length len = min xs.length len := rfl
                  have hrun : (do pure (Next.value (← Builtin.copy_ at_ ty #[.slice (some ⟨b, i * k2, none⟩) len cap, vx])) : Sem Next).run P w = .ok (.value (.int .i64 (min xs.length len : Nat))) (wrote w b (i * k2) c2.toList) := by
                    simp [Builtin.copy_, hat, run_underlying ht, Result.andThen, l2, run_sizeOf hs, r2, goInt, hst, hmin3]
                  rw [hrun]
                  obtain ⟨fw, gw⟩ := frm_wrote (S := fun q => q = o) hg (off := i * k2) (vs := c2.toList) rfl hbb hD h1 hbd
                  obtain ⟨e1, e2, e3, e4, c', e5, e6, e7⟩ := wrote_facts c2.toList w b (i * k2) c ty' (0, 0) h1 hbd
                  refine ⟨⟨_, _, D, β, rfl, .t _ _ (.sc _ rfl), fw.mono (fun q hq => by subst hq; exact .inl hto), gw, other _ fw ⟨hsizes, fun e' b' k' hb' => ?_⟩, fun o e y hy => .inl ⟨e, y, hy⟩⟩, hloc, by simp⟩
                  obtain ⟨q1, q2, q3, q4⟩ := hrok.2 e' b' k' hb'
                  refine ⟨q1, q2, by rw [hElen]; exact q3, fun hle' => ?_⟩
                  have hee : e' = e := by omega
                  subst hee
                  rw [hbb] at hb'
                  cases hb'
                  refine ⟨c', ty', e5, by rw [e6]; exact h2, fun j y m tt hj hy htt => ?_⟩
                  have hmk : m < k2 := by rw [← hsizes j y hy]; exact (List.getElem?_eq_some_iff.1 htt).1
                  rw [hEget j] at hy
                  rw [e7, g4]
                  split at hy
                  · rename_i hij
                    have g1 : j * k2 = i * k2 + (j - i) * k2 := by rw [← Nat.add_mul]; congr 1; omega
                    have g2 : (j - i + 1) * k2 ≤ min xs.length len * k2 := Nat.mul_le_mul_right k2 (by omega)
                    have g3 : (j - i + 1) * k2 = (j - i) * k2 + k2 := Nat.succ_mul _ _
                    rw [if_pos (by omega)]
                    obtain ⟨v, p1, p2, p3⟩ := f2.2.2 _ y m tt hy htt
                    have g5 : j * k2 + m - i * k2 = (j - i) * k2 + m := by omega
                    rw [g5]
                    exact ⟨v, by simpa using p1, p2, p3.mono fw.ext⟩
                  · rename_i hij
                    have hne : ¬ (i * k2 ≤ j * k2 + m ∧ j * k2 + m < i * k2 + min xs.length len * k2) := by
                      by_cases hji : j < i
                      · have g1 := Nat.mul_le_mul_right k2 (show j + 1 ≤ i from hji)
                        have g2 : (j + 1) * k2 = j * k2 + k2 := Nat.succ_mul j k2
                        omega
                      · have g1 := Nat.mul_le_mul_right k2 (show i + min xs.length len ≤ j by omega)
                        have g2 : (i + min xs.length len) * k2 = i * k2 + min xs.length len * k2 := Nat.add_mul _ _ _
                        omega
                    rw [if_neg hne]
                    obtain ⟨v, p1, p2, p3⟩ := h3 j y m tt hj hy htt
                    exact ⟨v, p1, p2, p3.mono fw.ext⟩
              · simp at ha
            · simp at ha
          · simp at ha
            obtain ⟨rfl, rfl⟩ := ha
            obtain ⟨rfl, _⟩ := hvd.toT.sc_eq
            exact nothing none 0 rfl rfl rfl
          · simp at ha
            obtain ⟨rfl, rfl⟩ := ha
            obtain ⟨a, cap, rfl, _, _⟩ := Rep.slice_form hvd.toT
            exact nothing a cap rfl rfl rfl
          · simp at ha
      · simp at ha
    · simp at ha
  · simp at ha

end Go.Abs
