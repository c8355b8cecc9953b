/- From the given statement to the evaluator: arguments that read as data stand for trees; a law whose evaluation answers true on all trees of its parameters' types holds. -/
import Derived.Test.YtkamfflnfnjbeaaAbsLim
import Derived.ProofKit
set_option linter.unusedSimpArgs false
set_option linter.unusedVariables false
namespace Go.Abs
open Go Go.RowKit Go.WideShapes Go.ChangeShapes

variable {P : Program} {pol : Pol}

/-- One value of a type, its cells known. -/
def fitV (P : Program) (F : TypeId → List T → Prop) (t : TypeId) (x : T) : Prop :=
  match aggB P t with
  | some true => ∃ cs, x = .agg cs ∧ F t cs
  | _ => F t [x]

/-- The trees of a type, cell by cell. -/
def FitC (P : Program) : Nat → TypeId → List T → Prop
  | 0, _, _ => False
  | d + 1, t, cs =>
    match P.underlying t with
    | some .bool => ∃ b, cs = [.sc (.bool b)]
    | some (.int k) => ∃ n, cs = [.sc (.int k n)] ∧ (Lit.int k n).wf = true
    | some .string => ∃ s, cs = [.sc (.string s)] ∧ s.size ≤ maxLen
    | some (.slice e) => ∃ xs, cs = [.sl false (P.cellsOf e) xs] ∧ xs.length ≤ maxLen ∧ ∀ x ∈ xs, fitV P (FitC P d) e x
    | some (.struct fs) => cs.length = P.cellsOf t ∧ ∀ f ∈ fs.toList, FitC P d f.type ((cs.drop f.offset).take (P.cellsOf f.type))
    | some (.array n e) => cs.length = P.cellsOf t ∧ ∀ i, i < n → FitC P d e ((cs.drop (i * P.cellsOf e)).take (P.cellsOf e))
    | _ => False

/-- Trees for a list of types. -/
def FitAll (P : Program) (d : Nat) : List TypeId → List T → Prop
  | [], [] => True
  | t :: ts, x :: xs => fitV P (FitC P d) t x ∧ FitAll P d ts xs
  | _, _ => False

def laidAt (P : Program) (total : Nat) : Nat → List Field → Bool
  | off, [] => off == total
  | off, f :: r => f.offset == off && laidAt P total (off + P.cellsOf f.type) r

/-- Types whose values are trees. -/
def plainT (P : Program) : Nat → TypeId → Bool
  | 0, _ => false
  | d + 1, t =>
    match P.underlying t with
    | some .bool => true
    | some (.int _) => true
    | some .string => true
    | some (.slice e) => decide (0 < P.cellsOf e) && plainT P d e
    | some (.struct fs) => laidAt P (P.cellsOf t) 0 fs.toList && fs.toList.all fun f => plainT P d f.type
    | some (.array n e) => P.cellsOf t == n * P.cellsOf e && plainT P d e
    | _ => false

/-- Cells and their trees. -/
def RepC (D : Dom) (w : World) (vs : List Value) (ts : List T) : Prop :=
  vs.length = ts.length ∧ ∀ (i : Nat) v x, vs[i]? = some v → ts[i]? = some x → RepT D w v x ∧ okCell v = true

section
variable {D : Dom} {w : World}

theorem RepC.nil : RepC D w [] [] := ⟨rfl, by simp⟩

theorem RepC.append {vs vs' : List Value} {ts ts' : List T} (h : RepC D w vs ts) (h' : RepC D w vs' ts') : RepC D w (vs ++ vs') (ts ++ ts') := by
  refine ⟨by simp [h.1, h'.1], fun i v x hv hx => ?_⟩
  by_cases hi : i < vs.length
  · rw [List.getElem?_append_left hi] at hv
    rw [List.getElem?_append_left (by rw [← h.1]; exact hi)] at hx
    exact h.2 i v x hv hx
  · rw [List.getElem?_append_right (by omega)] at hv
    rw [List.getElem?_append_right (by rw [← h.1]; omega)] at hx
    rw [← h.1] at hx
    exact h'.2 _ v x hv hx

theorem RepC.one {v : Value} {x : T} (h : RepT D w v x) (ho : okCell v = true) : RepC D w [v] [x] := by
  refine ⟨rfl, fun i u y hu hy => ?_⟩
  cases i with
  | zero => simp at hu hy; subst hu; subst hy; exact ⟨h, ho⟩
  | succ i => simp at hu

end

theorem laidAt_le {total : Nat} : ∀ {fs : List Field} {off : Nat}, laidAt P total off fs = true → off ≤ total := by
  intro fs
  induction fs with
  | nil => intro off h; simp [laidAt] at h; omega
  | cons f r ih =>
    intro off h
    simp only [laidAt, Bool.and_eq_true] at h
    have := ih h.2
    omega

theorem laidAt_ge {total : Nat} : ∀ {fs : List Field} {off : Nat}, laidAt P total off fs = true → ∀ f ∈ fs, off ≤ f.offset := by
  intro fs
  induction fs with
  | nil => intro off h f hf; cases hf
  | cons g r ih =>
    intro off h f hf
    simp only [laidAt, Bool.and_eq_true, beq_iff_eq] at h
    cases hf with
    | head => omega
    | tail _ hf => have := ih h.2 f hf; omega

theorem mapM_some {α β : Type} {f : α → Option β} : ∀ {l : List α} {r : List β}, l.mapM f = some r → r.length = l.length ∧ ∀ a ∈ l, ∃ b, f a = some b := by
  intro l
  induction l with
  | nil => intro r h; simp at h; subst h; exact ⟨rfl, by simp⟩
  | cons a l ih =>
    intro r h
    rw [List.mapM_cons] at h
    cases hf : f a with
    | none => simp [hf] at h
    | some b =>
      cases hl : l.mapM f with
      | none => simp [hf, hl] at h
      | some bs =>
        simp [hf, hl] at h
        subst h
        obtain ⟨h1, h2⟩ := ih hl
        refine ⟨by simp [h1], fun c hc => ?_⟩
        cases hc with
        | head => exact ⟨b, hf⟩
        | tail _ hc => exact h2 c hc

/-- The cells of an array, window by window. -/
theorem glue_windows {D : Dom} {w : World} {k : Nat} {F : List T → Prop} {cs : List Value} : ∀ (n : Nat), n * k ≤ cs.length → (∀ i, i < n → ∃ ts, F ts ∧ RepC D w ((cs.drop (i * k)).take k) ts) →
    ∃ ts, RepC D w (cs.take (n * k)) ts ∧ ∀ i, i < n → F ((ts.drop (i * k)).take k) := by
  intro n
  induction n with
  | zero => intro _ _; exact ⟨[], by simpa using RepC.nil, fun i hi => by omega⟩
  | succ n ih =>
    intro hl h
    have hl' : n * k + k ≤ cs.length := by rw [Nat.succ_mul] at hl; exact hl
    obtain ⟨ts, h1, h2⟩ := ih (by omega) (fun i hi => h i (by omega))
    obtain ⟨us, h3, h4⟩ := h n (by omega)
    have hts : ts.length = n * k := by rw [← h1.1, List.length_take]; omega
    have hus : us.length = k := by rw [← h4.1, List.length_take, List.length_drop]; omega
    refine ⟨ts ++ us, ?_, fun i hi => ?_⟩
    · have := h1.append h4
      rwa [← List.take_add, ← Nat.succ_mul] at this
    · by_cases hin : i = n
      · subst hin
        rw [List.drop_append_of_le_length (by omega), List.drop_of_length_le (by omega), List.nil_append, List.take_of_length_le (by omega)]
        exact h3
      · have hi' : i < n := by omega
        have hik : i * k + k ≤ n * k := by rw [← Nat.succ_mul]; exact Nat.mul_le_mul_right _ hi'
        rw [List.drop_append_of_le_length (by omega), List.take_append_of_le_length (by rw [List.length_drop]; omega)]
        exact h2 i hi'

theorem drop_take_nil {α : Type} (l : List α) : l.drop 0 = l := rfl

/-- The cells of a struct, field by field. -/
theorem glue_fields {D : Dom} {w : World} {F : TypeId → List T → Prop} {cs : List Value} {total : Nat} (hlen : cs.length = total) : ∀ (fs : List Field) (off : Nat), laidAt P total off fs = true →
    (∀ f ∈ fs, ∃ ts, F f.type ts ∧ RepC D w ((cs.drop f.offset).take (P.cellsOf f.type)) ts) → ∃ ts, RepC D w (cs.drop off) ts ∧ ∀ f ∈ fs, F f.type ((ts.drop (f.offset - off)).take (P.cellsOf f.type)) := by
  intro fs
  induction fs with
  | nil =>
    intro off h _
    simp [laidAt] at h
    refine ⟨[], ?_, by simp⟩
    rw [List.drop_of_length_le (by omega)]
    exact RepC.nil
  | cons f r ih =>
    intro off h hf
    have h' := h
    simp only [laidAt, Bool.and_eq_true, beq_iff_eq] at h
    obtain ⟨e, hr⟩ := h
    obtain ⟨ts, h1, h2⟩ := ih _ hr (fun g hg => hf g (by simp [hg]))
    obtain ⟨us, h3, h4⟩ := hf f (by simp)
    have hle := laidAt_le hr
    rw [e] at h4
    have hus : us.length = P.cellsOf f.type := by rw [← h4.1, List.length_take, List.length_drop]; omega
    refine ⟨us ++ ts, ?_, fun g hg => ?_⟩
    · have := h4.append h1
      rwa [← List.drop_drop, List.take_append_drop] at this
    · cases hg with
      | head =>
        rw [e, Nat.sub_self, List.drop_zero, List.take_append_of_le_length (by omega), List.take_of_length_le (by omega)]
        exact h3
      | tail _ hg =>
        have hge := laidAt_ge hr g hg
        have := h2 g hg
        rwa [List.drop_append, List.drop_of_length_le (by omega), List.nil_append, hus, Nat.sub_sub]

theorem cell_lt {w : World} {a : Addr} {v : Value} (h : w.cell? a = some v) : a.block < w.heap.size ∧ a.spot = none := by
  unfold World.cell? at h
  split at h
  · rename_i c ty fr hc
    refine ⟨lt_of_heap hc, ?_⟩
    split at h
    · simp at h
    · rename_i hs
      cases hsp : a.spot with
      | none => rfl
      | some n => simp [hsp] at hs
  · simp at h

theorem cells?_get {w : World} {a : Addr} {n : Nat} {l : List Value} (h : w.cells? 0 a n = some l) : l.length = n ∧ ∀ (j : Nat) v, l[j]? = some v → w.cell? (a.add j) = some v := by
  unfold World.cells? at h
  simp only [Nat.zero_le, if_true] at h
  have key : ∀ (xs : List Nat) (l : List Value), xs.mapM (fun i => w.cell? (a.add i)) = some l → l.length = xs.length ∧ ∀ (j : Nat) v i, l[j]? = some v → xs[j]? = some i → w.cell? (a.add i) = some v := by
    intro xs
    induction xs with
    | nil => intro l h; simp at h; subst h; exact ⟨rfl, by simp⟩
    | cons x xs ih =>
      intro l h
      rw [List.mapM_cons] at h
      cases hf : w.cell? (a.add x) with
      | none => simp [hf] at h
      | some b =>
        cases hl : xs.mapM (fun i => w.cell? (a.add i)) with
        | none => simp [hf, hl] at h
        | some bs =>
          simp [hf, hl] at h
          subst h
          obtain ⟨h1, h2⟩ := ih bs hl
          refine ⟨by simp [h1], fun j v i hv hi => ?_⟩
          cases j with
          | zero => simp at hv hi; subst hv; subst hi; exact hf
          | succ j => exact h2 j v i (by simpa using hv) (by simpa using hi)
  obtain ⟨h1, h2⟩ := key _ _ h
  have hl : l.length = n := by simpa using h1
  exact ⟨hl, fun j v hv => h2 j v j hv (by
    have : j < n := by rw [← hl]; exact (List.getElem?_eq_some_iff.1 hv).1
    simp [this])⟩

theorem add_none {a : Addr} (h : a.spot = none) (n : Nat) : a.add n = ⟨a.block, a.off + n, none⟩ := by
  unfold Addr.add
  split
  · subst n; cases a; simp at h; subst h; rfl
  · rfl

def lowD (w : World) : Dom := fun b => b < w.heap.size

def isAggD : TypeDesc → Bool
  | .struct _ => true
  | .array _ _ => true
  | _ => false

theorem aggB_of {t : TypeId} {u : TypeDesc} (h : P.underlying t = some u) : aggB P t = some (isAggD u) := by
  unfold aggB
  rw [h]
  cases u <;> rfl

/-- Cells that read as data stand for trees of the type. -/
theorem read_cells {H : Type} {enc : TypeId × Value → H} {w : World} {sp : Nat → Bool} {held : Bool} : ∀ (d : Nat) {t : TypeId} {fuel : Nat} {cs : List Value} {z : DataW H × List MemPlace}, plainT P d t = true → DataW.trod enc P w 0 sp held fuel t cs = some z →
    ∃ ts, FitC P d t ts ∧ RepC (lowD w) w cs ts := by
  intro d
  induction d with
  | zero => intro t fuel cs z hp; simp [plainT] at hp
  | succ d ih =>
    intro t fuel cs z hp hr
    cases fuel with
    | zero => simp [DataW.trod] at hr
    | succ fuel =>
      simp only [plainT] at hp
      have hfit : FitC P (d + 1) t = fun cs => match P.underlying t with
        | some .bool => ∃ b, cs = [.sc (.bool b)]
        | some (.int k) => ∃ n, cs = [.sc (.int k n)] ∧ (Lit.int k n).wf = true
        | some .string => ∃ s, cs = [.sc (.string s)] ∧ s.size ≤ maxLen
        | some (.slice e) => ∃ xs, cs = [.sl false (P.cellsOf e) xs] ∧ xs.length ≤ maxLen ∧ ∀ x ∈ xs, fitV P (FitC P d) e x
        | some (.struct fs) => cs.length = P.cellsOf t ∧ ∀ f ∈ fs.toList, FitC P d f.type ((cs.drop f.offset).take (P.cellsOf f.type))
        | some (.array n e) => cs.length = P.cellsOf t ∧ ∀ i, i < n → FitC P d e ((cs.drop (i * P.cellsOf e)).take (P.cellsOf e))
        | _ => False := rfl
      rw [hfit]
      clear hfit
      cases hu : P.underlying t with
      | none => rw [hu] at hp; simp at hp
      | some u =>
        rw [hu] at hp
        cases u with
        | bool =>
          simp only [DataW.trod, hu] at hr ⊢
          match cs, hr with
          | [.bool b], hr => exact ⟨_, ⟨b, rfl⟩, RepC.one (.sc _ rfl) rfl⟩
        | int k =>
          simp only [DataW.trod, hu] at hr ⊢
          match cs, hr with
          | [.int k' n], hr =>
            simp only at hr
            split at hr
            · rename_i hc
              obtain ⟨rfl, hw⟩ := hc
              exact ⟨_, ⟨n, rfl, hw⟩, RepC.one (.sc _ rfl) rfl⟩
            · simp at hr
        | string =>
          simp only [DataW.trod, hu] at hr ⊢
          match cs, hr with
          | [.string s], hr =>
            simp only at hr
            split at hr
            · rename_i hc
              exact ⟨_, ⟨s, rfl, hc⟩, RepC.one (.sc _ rfl) rfl⟩
            · simp at hr
        | slice e =>
          simp only [DataW.trod, hu] at hr ⊢
          simp only [Bool.and_eq_true, decide_eq_true_eq] at hp
          match cs, hr with
          | [.slice none 0 0], hr => exact ⟨_, ⟨[], rfl, by simp, by simp⟩, RepC.one (.nosl _ _ _ _ (by simp)) rfl⟩
          | [.slice (some a) len cap], hr =>
            simp only at hr
            split at hr
            · rename_i hc
              cases hm : (List.range len).mapM (fun i => (w.cells? 0 (a.add (i * P.cellsOf e)) (P.cellsOf e)).bind (DataW.trod enc P w 0 sp held fuel e)) with
              | none => simp [hm] at hr
              | some elems =>
                obtain ⟨_, hel⟩ := mapM_some hm
                have hlen : len ≤ maxLen := Nat.le_trans hc.2.1 hc.2.2
                by_cases h0 : len = 0
                · subst h0
                  exact ⟨_, ⟨[], rfl, by simp, by simp⟩, RepC.one (.nosl _ _ _ _ (by simp)) rfl⟩
                · have hex : ∀ i, ∃ x : T, i < len → fitV P (FitC P d) e x ∧ ∃ vs, RepC (lowD w) w vs x.cells ∧ w.cells? 0 (a.add (i * P.cellsOf e)) (P.cellsOf e) = some vs := by
                    intro i
                    by_cases hi : i < len
                    · obtain ⟨b, hb⟩ := hel i (by simp [hi])
                      cases hv : w.cells? 0 (a.add (i * P.cellsOf e)) (P.cellsOf e) with
                      | none => simp [hv] at hb
                      | some vs =>
                        simp [hv] at hb
                        obtain ⟨ts, h1, h2⟩ := ih hp.2 hb
                        have hpe := hp.2
                        cases d with
                        | zero => simp [plainT] at hpe
                        | succ d =>
                          simp only [plainT] at hpe
                          cases hue : P.underlying e with
                          | none => rw [hue] at hpe; simp at hpe
                          | some ue =>
                            have ha := aggB_of hue
                            cases hia : isAggD ue with
                            | true =>
                              rw [hia] at ha
                              exact ⟨.agg ts, fun _ => ⟨by unfold fitV; rw [ha]; exact ⟨ts, rfl, h1⟩, vs, h2, rfl⟩⟩
                            | false =>
                              rw [hia] at ha
                              have hone : ∃ x, ts = [x] ∧ T.cells x = [x] := by
                                simp only [FitC, hue] at h1
                                cases ue with
                                | bool => obtain ⟨b, rfl⟩ := h1; exact ⟨_, rfl, rfl⟩
                                | int k => obtain ⟨b, rfl, _⟩ := h1; exact ⟨_, rfl, rfl⟩
                                | string => obtain ⟨b, rfl, _⟩ := h1; exact ⟨_, rfl, rfl⟩
                                | slice e2 => obtain ⟨b, rfl, _⟩ := h1; exact ⟨_, rfl, rfl⟩
                                | struct fs => simp [isAggD] at hia
                                | array n e2 => simp [isAggD] at hia
                                | _ => exact h1.elim
                              obtain ⟨x, rfl, hx⟩ := hone
                              exact ⟨x, fun _ => ⟨by unfold fitV; rw [ha]; exact h1, vs, by rw [hx]; exact h2, rfl⟩⟩
                    · exact ⟨.sc undef, fun h => absurd h hi⟩
                  obtain ⟨g, hg⟩ := Classical.axiomOfChoice hex
                  have hk := hp.1
                  have hspot : a.spot = none := by
                    obtain ⟨_, vs, h2, h3⟩ := hg 0 (by omega)
                    obtain ⟨h4, h5⟩ := cells?_get h3
                    have := h5 0 (vs[0]'(by omega)) (by simp)
                    have e : (a.add (0 * P.cellsOf e)).add 0 = a := by simp [Addr.add]
                    rw [e] at this
                    exact (cell_lt this).2
                  have hcell : ∀ i j, i < len → j < P.cellsOf e → ∃ v x, w.cell? ⟨a.block, a.off + (i * P.cellsOf e + j), none⟩ = some v ∧ (g i).cells[j]? = some x ∧ RepT (lowD w) w v x ∧ okCell v = true := by
                    intro i j hi hj
                    obtain ⟨_, vs, h2, h3⟩ := hg i hi
                    obtain ⟨h4, h5⟩ := cells?_get h3
                    have hjv : j < vs.length := by omega
                    have h6 := h5 j vs[j] (by simp)
                    rw [add_none hspot, add_none rfl] at h6
                    have hjx : j < (g i).cells.length := by rw [← h2.1]; exact hjv
                    have h7 := h2.2 j vs[j] (g i).cells[j] (by simp) (by simp)
                    refine ⟨vs[j], (g i).cells[j], ?_, by simp, h7.1, h7.2⟩
                    rw [← h6]
                    simp [Nat.add_assoc]
                  have hlt : a.block < w.heap.size := by
                    obtain ⟨v, x, h1, _⟩ := hcell 0 0 (by omega) hk
                    exact (cell_lt h1).1
                  have hgl : ∀ i, i < len → (g i).cells.length = P.cellsOf e := by
                    intro i hi
                    obtain ⟨_, vs, h2, h3⟩ := hg i hi
                    rw [← h2.1]
                    exact (cells?_get h3).1
                  refine ⟨_, ⟨(List.range len).map g, rfl, by simpa using hlen, fun x hx => ?_⟩, RepC.one ?_ rfl⟩
                  · simp only [List.mem_map, List.mem_range] at hx
                    obtain ⟨i, hi, rfl⟩ := hx
                    exact (hg i hi).1
                  · obtain ⟨ab, ao, asp⟩ := a
                    simp only at hspot hcell hlt
                    subst hspot
                    have hxs : ∀ (i : Nat) x, ((List.range len).map g)[i]? = some x → i < len ∧ x = g i := by
                      intro i x hx
                      rw [List.getElem?_map, Option.map_eq_some_iff] at hx
                      obtain ⟨y, hy, rfl⟩ := hx
                      have hi : i < len := by
                        have := (List.getElem?_eq_some_iff.1 hy).1
                        simpa using this
                      rw [List.getElem?_range hi] at hy
                      cases hy
                      exact ⟨hi, rfl⟩
                    refine .sl ab ao len cap false (P.cellsOf e) _ hlt (by simp) hc.2.1 (by simp) (fun i x hx => ?_) (fun j => (w.cell? ⟨ab, ao + j, none⟩).getD undef) (fun j hj => ?_) (fun i x j t hx ht => ?_)
                    · obtain ⟨hi, rfl⟩ := hxs i x hx
                      exact hgl i hi
                    · have hd1 : j / P.cellsOf e < len := Nat.div_lt_of_lt_mul (by rw [Nat.mul_comm]; exact hj)
                      have hd2 : j % P.cellsOf e < P.cellsOf e := Nat.mod_lt _ hk
                      obtain ⟨v, x, h1, _, _, h4⟩ := hcell _ _ hd1 hd2
                      have hdm : j / P.cellsOf e * P.cellsOf e + j % P.cellsOf e = j := Nat.div_add_mod' j (P.cellsOf e)
                      rw [hdm] at h1
                      rw [h1]
                      exact ⟨rfl, h4⟩
                    · obtain ⟨hi, rfl⟩ := hxs i x hx
                      have hj : j < P.cellsOf e := by rw [← hgl i hi]; exact (List.getElem?_eq_some_iff.1 ht).1
                      obtain ⟨v, y, h1, h2, h3, _⟩ := hcell i j hi hj
                      rw [ht] at h2
                      cases h2
                      simp only [h1, Option.getD_some]
                      exact h3
            · simp at hr
        | struct fs =>
          simp only [DataW.trod, hu] at hr ⊢
          simp only [Bool.and_eq_true, List.all_eq_true] at hp
          split at hr
          · rename_i hlen
            cases hm : fs.toList.mapM (fun f => DataW.trod enc P w 0 sp held fuel f.type ((cs.drop f.offset).take (P.cellsOf f.type))) with
            | none => simp [hm] at hr
            | some xs =>
              obtain ⟨_, hel⟩ := mapM_some hm
              obtain ⟨ts, h1, h2⟩ := glue_fields (P := P) (D := lowD w) (w := w) (F := FitC P d) hlen fs.toList 0 hp.1 (fun f hf => by
                obtain ⟨b, hb⟩ := hel f hf
                exact ih (hp.2 f hf) hb)
              refine ⟨ts, ⟨by rw [← hlen, ← h1.1]; rfl, fun f hf => by simpa using h2 f hf⟩, h1⟩
          · simp at hr
        | array n e =>
          simp only [DataW.trod, hu] at hr ⊢
          simp only [Bool.and_eq_true, beq_iff_eq] at hp
          split at hr
          · rename_i hlen
            cases hm : (List.range n).mapM (fun i => DataW.trod enc P w 0 sp held fuel e ((cs.drop (i * P.cellsOf e)).take (P.cellsOf e))) with
            | none => simp [hm] at hr
            | some xs =>
              obtain ⟨_, hel⟩ := mapM_some hm
              obtain ⟨ts, h1, h2⟩ := glue_windows (D := lowD w) (w := w) (k := P.cellsOf e) (F := FitC P d e) (cs := cs) n (by omega) (fun i hi => by
                obtain ⟨b, hb⟩ := hel i (by simp [hi])
                exact ih hp.2 hb)
              have hall : cs.take (n * P.cellsOf e) = cs := List.take_of_length_le (by omega)
              rw [hall] at h1
              exact ⟨ts, ⟨by rw [← hlen, ← h1.1], h2⟩, h1⟩
          · simp at hr
        | _ => simp at hp

/-- A value that reads as data stands for a tree of its type. -/
theorem read_value {H : Type} {enc : TypeId × Value → H} {w : World} {sp : Nat → Bool} {held : Bool} {d : Nat} {t : TypeId} {v : Value} {x : DataW H} {ps : List MemPlace} {base : Nat} (hp : plainT P d t = true)
    (hok : Value.okWide P w .any base t v) (hr : DataW.Trod enc P w 0 sp held t v x ps) : ∃ y, fitV P (FitC P d) t y ∧ RepT (lowD w) w v y := by
  obtain ⟨fuel, hr⟩ := hr
  obtain ⟨ts, h1, h2⟩ := read_cells d hp hr
  cases d with
  | zero => simp [plainT] at hp
  | succ d =>
    cases hu : P.underlying t with
    | none => simp only [plainT, hu] at hp; simp at hp
    | some u =>
      have ha := aggB_of hu
      cases hia : isAggD u with
      | true =>
        rw [hia] at ha
        have hagg : ∃ cs, v = .agg cs := by
          unfold Value.okWide at hok
          rw [hu] at hok
          cases u with
          | struct fs => obtain ⟨cs, h, _⟩ := hok; exact ⟨cs, h⟩
          | array n e => obtain ⟨cs, h, _⟩ := hok; exact ⟨cs, h⟩
          | _ => simp [isAggD] at hia
        obtain ⟨cs, rfl⟩ := hagg
        refine ⟨.agg ts, by unfold fitV; rw [ha]; exact ⟨ts, rfl, h1⟩, .agg cs ts (by have := h2.1; simpa [Value.cells] using this) (fun i v x hv hx => (h2.2 i v x (by simpa [Value.cells] using hv) hx).1)⟩
      | false =>
        rw [hia] at ha
        have hone : ∃ y, ts = [y] := by
          simp only [FitC, hu] at h1
          cases u with
          | bool => obtain ⟨b, rfl⟩ := h1; exact ⟨_, rfl⟩
          | int k => obtain ⟨b, rfl, _⟩ := h1; exact ⟨_, rfl⟩
          | string => obtain ⟨b, rfl, _⟩ := h1; exact ⟨_, rfl⟩
          | slice e2 => obtain ⟨b, rfl, _⟩ := h1; exact ⟨_, rfl⟩
          | struct fs => simp [isAggD] at hia
          | array n e2 => simp [isAggD] at hia
          | _ => exact h1.elim
        obtain ⟨y, rfl⟩ := hone
        refine ⟨y, by unfold fitV; rw [ha]; exact h1, ?_⟩
        have hna : v.cells = #[v] := by
          have hcl : v.cells.size = 1 := by have := h2.1; simpa using this
          cases v with
          | agg cs =>
            exfalso
            simp only [Value.cells] at h2 hcl
            unfold Value.okWide at hok
            rw [hu] at hok
            cases u <;> simp [isAggD] at hia <;> simp [Cell.okWide, Cell.ok, hu] at hok
          | _ => rfl
        rw [hna] at h2
        exact (h2.2 0 v y rfl rfl).1

theorem read_all {H : Type} {enc : TypeId × Value → H} {w : World} {sp : Nat → Bool} {held : Bool} {d base : Nat} : ∀ {ts : List TypeId} {vs : List Value} {ds : List (DataW H)} {ps : List MemPlace}, (∀ t ∈ ts, plainT P d t = true) →
    (∀ (j : Nat) t v, ts[j]? = some t → vs[j]? = some v → Value.okWide P w .any base t v) → DataW.TrodAll enc P w 0 sp held ts vs ds ps → ∃ xs, FitAll P d ts xs ∧ vs.length = xs.length ∧ ∀ (i : Nat) v x, vs[i]? = some v → xs[i]? = some x → RepT (lowD w) w v x := by
  intro ts
  induction ts with
  | nil =>
    intro vs ds ps _ _ h
    match vs, ds, h with
    | [], [], _ => exact ⟨[], trivial, rfl, by simp⟩
  | cons t ts ih =>
    intro vs ds ps hp hok h
    match vs, ds, h with
    | v :: vs, x :: ds, h =>
      obtain ⟨p, q, h1, h2, _⟩ := h
      obtain ⟨y, h3, h4⟩ := read_value (hp t (by simp)) (hok 0 t v rfl rfl) h1
      obtain ⟨xs, h5, h6, h7⟩ := ih (fun u hu => hp u (by simp [hu])) (fun j u z hu hz => hok (j + 1) u z (by simpa using hu) (by simpa using hz)) h2
      refine ⟨y :: xs, ⟨h3, h5⟩, by simp [h6], fun i u z hu hz => ?_⟩
      cases i with
      | zero => simp at hu hz; subst hu; subst hz; exact h4
      | succ i => exact h7 i u z (by simpa using hu) (by simpa using hz)

theorem KeptW.sameAt {w w' : World} (hk : KeptW w w') {p : MemPlace} (hp : p.block < w.heap.size) : w.sameAt w' p := by
  cases p with
  | cell b o => exact World.cell?_of_block (w := w) (hk.old b hp)
  | map b => exact hk.old b hp

theorem trodAll_stays {H : Type} {enc : TypeId × Value → H} {w w' : World} (hl : laidOutB P = true) (hk : KeptW w w') {sp : Nat → Bool} : ∀ {ts : List TypeId} {vs : List Value} {ds : List (DataW H)} {ps : List MemPlace},
    (∀ t ∈ ts, P.readableRec t = true ∧ t < P.types.size) → DataW.TrodAll enc P w 0 (fun _ => true) true ts vs ds ps → (∀ p ∈ ps, p.block < w.heap.size) → (∀ p ∈ ps, sp p.block = true) → DataW.TrodAll enc P w' 0 sp true ts vs ds ps := by
  intro ts
  induction ts with
  | nil => intro vs ds ps _ h _ _; match vs, ds, h with | [], [], h => exact h
  | cons t ts ih =>
    intro vs ds ps hp h hlt hsp
    match vs, ds, h with
    | v :: vs, x :: ds, h =>
      obtain ⟨p, q, h1, h2, rfl⟩ := h
      refine ⟨p, q, ?_, ih (fun u hu => hp u (by simp [hu])) h2 (fun x hx => hlt x (by simp [hx])) (fun x hx => hsp x (by simp [hx])), rfl⟩
      exact WideElems.Trod_stays hl (hp t (by simp)).1 (hp t (by simp)).2 h1 (fun x hx => hk.sameAt (hlt x (by simp [hx]))) (fun x hx => hsp x (by simp [hx]))

/-- A law's call: true, and all that lay as it was. -/
theorem law_calls {H : Type} {enc : TypeId × Value → H} (hS : Sound P pol) (hglob : ∀ g, pol.glob g = none) (hl : laidOutB P = true) {f : FuncId} {fn : Func} {s : ChangeSpec} {apart fresh handsOn again : Bool} {d : Nat} {tb : TypeId}
    (hpar : fn.params.toList.all (fun t => plainT P d t && P.readableRec t && decide (t < P.types.size)) = true) (hrt : fn.resultTypes = #[tb]) (htb : P.underlying tb = some .bool) (hvars : s.vars = [])
    (hspec : ∀ ds : List (DataW H), ds.length = fn.params.size → s.fn H ds = { results := [.lit (.bool true)], args := ds })
    (hlaw : ∀ xs, FitAll P d fn.params.toList xs → ans P pol f xs = some (.sc (.bool true)))
    {W : World} {base : Nat} {args : Array Value} {ds gs : List (DataW H)} {before : List MemPlace} (hval : ∀ (j : Nat) t v, fn.params[j]? = some t → args[j]? = some v → Value.okWide P W .any base t v)
    (hW : DataW.Whole enc P fn.params.toList s.vars apart W args.toList ds gs before) :
    Calls P f args W fun e W' => ∃ v, e = .returned v ∧ s.post enc P fn apart fresh handsOn again W args v W' := by
  simp only [List.all_eq_true, Bool.and_eq_true, decide_eq_true_eq] at hpar
  have hW' := hW
  obtain ⟨p, q, hA, hV, rfl, hfz, hnd⟩ := hW
  rw [hvars] at hV
  have hq : gs = [] ∧ q = [] := by
    match gs, hV with
    | [], hV => exact ⟨rfl, hV⟩
  obtain ⟨rfl, rfl⟩ := hq
  obtain ⟨xs, h1, h2, h3⟩ := read_all (d := d) (fun t ht => (hpar t ht).1.1) (fun j t v ht hv => hval j t v (by simpa using ht) (by simpa using hv)) hA
  have hlen : ds.length = fn.params.size := by
    have key : ∀ {ts : List TypeId} {vs : List Value} {ds : List (DataW H)} {ps : List MemPlace}, DataW.TrodAll enc P W 0 (fun _ => true) true ts vs ds ps → ds.length = ts.length := by
      intro ts
      induction ts with
      | nil => intro vs ds ps h; match vs, ds, h with | [], [], _ => rfl
      | cons t ts ih => intro vs ds ps h; match vs, ds, h with | v :: vs, x :: ds, h => obtain ⟨_, _, _, h, _⟩ := h; simp [ih h]
    simpa using key hA
  have hsp := hspec ds hlen
  obtain ⟨hc, hsim⟩ := ans_ok hS f xs _ (hlaw xs h1)
  have hcall := hsim W (lowD W) args (fun b hb => hb) (fun g x hx => by rw [hglob] at hx; cases hx) (by simpa using h2) (fun i v t hv ht => h3 i v t (by simpa using hv) ht)
  refine (callsIn_wide.1 hcall).mono fun e W' he => ?_
  obtain ⟨v, rfl, hk, hv⟩ := he
  obtain ⟨rfl, _⟩ := hv.sc_eq
  have hlt : ∀ p' ∈ p ++ ([] : List MemPlace), p'.block < W.heap.size := fun x hx => hW'.lt x hx
  have hlt' : ∀ p' ∈ p, p'.block < W.heap.size := fun x hx => hlt x (by simp [hx])
  have hold : ∀ sp : Nat → Bool, (∀ x ∈ p, sp x.block = true) → DataW.TrodAll enc P W' 0 sp true fn.params.toList args.toList ds p := fun sp hs => trodAll_stays hl hk (fun t ht => ⟨(hpar t ht).1.2, (hpar t ht).2⟩) hA hlt' hs
  have hres : ∀ (b : Nat) (sp : Nat → Bool) (hd : Bool), DataW.TrodAll enc P W' b sp hd fn.resultTypes.toList ((Value.bool true).resultList fn.resultTypes.size) [.lit (.bool true)] [] := by
    intro b sp hd
    rw [hrt]
    refine ⟨[], [], ⟨1, ?_⟩, rfl, rfl⟩
    simp [DataW.trod, htb, Value.cells]
  refine ⟨_, rfl, ds, [], p ++ [], [], p, [], hW', ?_, ?_, ?_, ?_, fun _ => ?_⟩
  · simp only [List.append_nil, hsp]; exact hres _ _ _
  · simp only [List.append_nil, hsp]; exact hold _ (fun x hx => by simpa using hlt' x hx)
  · simp only [List.append_nil, hsp, hvars]; rfl
  · refine ⟨hk.os, hk.out, fun i hi => ?_⟩
    rw [hk.old i hi]
    split <;> simp_all
  · refine ⟨?_, .lit (.bool true) :: ds, [], p, ⟨p, [], ?_, ?_, by simp, ?_, ?_⟩, ?_⟩
    · exact ok_one hrt rfl (by unfold Value.okWide; rw [htb]; simp [Cell.okWide, Cell.ok, htb])
    · have := trodAll_append (hold (fun _ => true) (fun _ _ => rfl)) (hres 0 (fun _ => true) true)
      simpa using this
    · rw [hvars]; rfl
    · intro b off hin
      have := hfz b off (by simp [hin])
      rw [World.frozen?_of_block (w := W) (hk.old b (hlt' _ hin))]
      exact this
    · intro ha
      have := hnd ha
      simpa using this
    · intro x hx _
      simpa using hx

end Go.Abs
