/- The operations that leave the abstract heap alone: loads, addresses, slices, fields, literals, comparisons. -/
import Derived.Test.YtkamfflnfnjbeaaAbsRun
set_option linter.unusedSimpArgs false
set_option linter.unusedVariables false
namespace Go.Abs
open Go

variable {P : Program} {D : Dom} {β : Bet} {w : World}

theorem asNat_rep {v : Value} {x : AV} {n : Nat} (h : Rep D β w v x) (hx : asNat x = some n) : ∃ k, v = .int k n := by
  unfold asNat at hx
  split at hx
  · rename_i k m
    obtain ⟨rfl, _⟩ := h.toT.sc_eq
    by_cases hm : 0 ≤ m
    · simp [hm] at hx; subst hx; exact ⟨k, by rw [Int.toNat_of_nonneg hm]⟩
    · simp [hm] at hx
  · simp at hx

theorem takeVarT_map {t : TypeId} {cs : List T} {x : T} (h : takeVarT P t cs = some x) : takeVar P t (cs.map .t) = some (.t x) := by
  unfold takeVarT at h
  unfold takeVar
  cases ha : aggB P t with
  | none => simp [ha] at h
  | some b =>
    cases b with
    | true =>
      cases hs : szOf P t with
      | none => simp [ha, hs] at h
      | some n =>
        simp only [ha, hs] at h ⊢
        by_cases hn : n ≤ cs.length
        · rw [if_pos hn] at h
          rw [if_pos (by simpa using hn)]
          simp at h
          rw [← h, ← List.map_take, mkAgg_map]
        · simp [hn] at h
    | false =>
      simp only [ha] at h ⊢
      cases cs with
      | nil => simp at h
      | cons c r => simp at h; simp [h]

theorem run_loadVar {t : TypeId} {cs : List AV} {x : AV} {b off : Nat} {c : Nat → Value} (h : takeVar P t cs = some x)
    (hc : ∀ j, j < cs.length → w.cell? ⟨b, off + j, none⟩ = some (c j)) (hr : ∀ (j : Nat) u, cs[j]? = some u → Rep D β w (c j) u) :
    ∃ v, (loadVar t ⟨b, off, none⟩).run P w = .ok v w ∧ Rep D β w v x := by
  unfold takeVar at h
  cases ha : aggB P t with
  | none => simp [ha] at h
  | some ab =>
    cases ab with
    | true =>
      cases hs : szOf P t with
      | none => simp [ha, hs] at h
      | some n =>
        simp only [ha, hs] at h
        by_cases hn : n ≤ cs.length
        · rw [if_pos hn] at h
          simp at h
          subst h
          refine ⟨_, by simp only [loadVar, Sem.run_bind, run_isAgg ha, Result.andThen, run_sizeOf hs, if_true, run_loadCells n (fun j hj => hc j (by omega))]; rfl, ?_⟩
          refine Rep.mkAgg (by simp; omega) fun i v u hv hu => ?_
          have hi : i < n := by
            have := (List.getElem?_eq_some_iff.1 hu).1
            simp at this; omega
          have e : c i = v := by simpa [hi] using hv
          subst e
          exact hr i u (by simpa [List.getElem?_take, hi] using hu)
        · simp [hn] at h
    | false =>
      simp only [ha] at h
      cases cs with
      | nil => simp at h
      | cons d r =>
        simp at h
        subst h
        have h0 := hc 0 (by simp)
        exact ⟨c 0, by simp only [loadVar, Sem.run_bind, run_isAgg ha, Result.andThen]; simpa using run_load (by simpa using h0), hr 0 d (by simp)⟩

/-- A row's cells, from one of its elements on. -/
theorem RowOk.cell {o k : Nat} {elems : List AV} {mr e b k' i : Nat} {x : AV} (h : RowOk D β w o k elems mr) (hb : β o e = some (b, k')) (hm : mr ≤ e) (hi : i < e) (hx : elems[i]? = some x) :
    k' = k ∧ ∃ c : Nat → Value, ∀ (j : Nat) u, x.cells[j]? = some u → w.cell? ⟨b, i * k + j, none⟩ = some (c j) ∧ okCell (c j) = true ∧ Rep D β w (c j) u := by
  obtain ⟨hD, hk, he, hc⟩ := h.2 e b k' hb
  obtain ⟨c, ty, h1, h2, h3⟩ := hc hm
  refine ⟨hk, fun j => (c[i * k + j]?).getD default, fun j u hu => ?_⟩
  obtain ⟨v, hv, hok, hr⟩ := h3 i x j u hi hx hu
  simp only [hv, Option.getD_some]
  exact ⟨by simp [World.cell?, h1, hv], hok, hr⟩

theorem rowAt_some {h : Heap} {o e i : Nat} {x : AV} (hr : rowAt h o e i = some x) : ∃ k elems mr, h[o]? = some (.row k elems mr) ∧ mr ≤ e ∧ i < e ∧ e ≤ elems.length ∧ elems[i]? = some x := by
  unfold rowAt at hr
  split at hr
  · rename_i k elems mr ho
    by_cases hc : mr ≤ e ∧ i < e ∧ e ≤ elems.length
    · rw [if_pos hc] at hr
      exact ⟨k, elems, mr, ho, hc.1, hc.2.1, hc.2.2, hr⟩
    · simp [hc] at hr
  · simp at hr

theorem aLoad_run [Cp] {h : Heap} {t : TypeId} {a x : AV} {va : Value} (hl : aLoad P t a h = some x) (ha : Rep D β w va a)
    (hobj : ∀ (o : Nat) y, o ∈ objsOf a → h[o]? = some y → ObjOk D β w o y) : ∃ v, (Instr.loadAt t va).run P w = .ok v w ∧ Rep D β w v x := by
  unfold aLoad at hl
  split at hl
  · rename_i cs
    have ht := ha.toT
    cases ht with
    | ip b off cs hD c hc hr =>
      cases hv : takeVarT P t cs with
      | none => simp [hv] at hl
      | some y =>
        simp [hv] at hl
        subst hl
        have := run_loadVar (P := P) (D := D) (β := β) (w := w) (takeVarT_map hv) (b := b) (off := off) (c := c) (fun j hj => (hc j (by simpa using hj)).1)
          (fun j u hu => by
            simp only [List.getElem?_map, Option.map_eq_some_iff] at hu
            obtain ⟨u', hu', rfl⟩ := hu
            exact .t _ _ (hr j u' hu'))
        obtain ⟨v, h1, h2⟩ := this
        exact ⟨v, by simpa [Instr.loadAt, Instr.sureAddr, Sem.run, pure, Result.andThen] using h1, h2⟩
  · rename_i o e i off
    cases hr : rowAt h o e i with
    | none => simp [hr] at hl
    | some y =>
      simp only [hr] at hl
      obtain ⟨k, elems, mr, ho, hm, hi, he, hy⟩ := rowAt_some hr
      have hok := hobj o _ (by simp [objsOf]) ho
      cases ha with
      | ref _ _ _ _ b k' hb =>
        obtain ⟨rfl, c, hcell⟩ := RowOk.cell hok hb hm hi hy
        have := run_loadVar (P := P) (D := D) (β := β) (w := w) hl (b := b) (off := i * k' + off) (c := fun j => c (off + j))
          (fun j hj => by
            have hlt : off + j < y.cells.length := by simp at hj; omega
            have := hcell (off + j) y.cells[off + j] (by simp [hlt])
            rw [Nat.add_assoc]; exact this.1)
          (fun j u hu => by
            simp only [List.getElem?_drop] at hu
            exact (hcell (off + j) u hu).2.2)
        obtain ⟨v, h1, h2⟩ := this
        exact ⟨v, by simpa [Instr.loadAt, Instr.sureAddr, Sem.run, pure, Result.andThen] using h1, h2⟩
  · simp at hl

theorem aField_some {s : TypeId} {f : Nat} {t : TypeId} {off : Nat} (h : aField P s f = some (t, off)) :
    ∃ fields fd n, typ P s = some (.struct fields) ∧ fields[f]? = some fd ∧ fd.type = t ∧ fd.offset = off ∧ szOf P fd.type = some (n + 1) := by
  unfold aField at h
  split at h
  · rename_i fields hs
    split at h
    · rename_i fd hf
      split at h
      · rename_i n hn
        simp at h
        exact ⟨fields, fd, n, hs, hf, h.1, h.2, hn⟩
      · simp at h
    · simp at h
  · simp at h

theorem aFieldAddr_run {s : TypeId} {x y : AV} {f : Nat} {vx : Value} (h : aFieldAddr P s x f = some y) (hx : Rep D β w vx x) :
    ∃ v, (Instr.fieldAt s vx f).run P w = .ok v w ∧ Rep D β w v y := by
  unfold aFieldAddr at h
  cases hf : aField P s f with
  | none => simp [hf] at h
  | some r =>
    obtain ⟨t, off⟩ := r
    obtain ⟨fields, fd, n, hs, hfd, rfl, rfl, hn⟩ := aField_some hf
    simp only [hf] at h
    have hrun : ∀ b o, (Instr.fieldAt s (.pointer (some ⟨b, o, none⟩)) f).run P w = .ok (.pointer (some ⟨b, o + fd.offset, none⟩)) w := by
      intro b o
      simp only [Instr.fieldAt, Sem.run_bind, run_underlying hs, Result.andThen, hfd]
      simp [Instr.sureAddr, fieldPlace, run_sizeOf hn, Result.andThen, Sem.run, pure, addr_add]
    split at h
    · rename_i cs
      simp at h
      subst h
      have ht := hx.toT
      cases ht with
      | ip b o cs hD c hc hr =>
        refine ⟨_, hrun b o, .t _ _ (.ip b (o + fd.offset) _ hD (fun j => c (fd.offset + j)) (fun j hj => ?_) (fun j u hu => ?_))⟩
        · rw [Nat.add_assoc]; exact hc _ (by simp at hj; omega)
        · simp only [List.getElem?_drop] at hu
          exact hr _ u hu
    · rename_i o e i k
      simp at h
      subst h
      cases hx with
      | ref _ _ _ _ b k' hb =>
        refine ⟨_, hrun b _, ?_⟩
        rw [Nat.add_assoc]
        exact .ref o e i _ b k' hb
    · simp at h

theorem run_asIntOf (k : IntKind) (n : Int) : (asIntOf (.int k n)).run P w = .ok (k, n) w := rfl

theorem aIndexAddr_run {t : TypeId} {x ix y : AV} {vx vi : Value} (h : aIndexAddr P t x ix = some y) (hx : Rep D β w vx x) (hi : Rep D β w vi ix) :
    ∃ v, (Instr.indexAt t vx vi).run P w = .ok v w ∧ Rep D β w v y := by
  unfold aIndexAddr at h
  split at h
  · rename_i len elem k ht hk
    obtain ⟨ik, rfl⟩ := asNat_rep hi hk
    cases hs : szOf P elem with
    | none => simp [hs] at h
    | some size =>
      simp only [hs] at h
      by_cases hlt : k < len
      · rw [if_pos hlt] at h
        have hrun : ∀ b o, (Instr.indexAt t (.pointer (some ⟨b, o, none⟩)) (.int ik k)).run P w = .ok (.pointer (some ⟨b, o + k * size, none⟩)) w := by
          intro b o
          simp only [Instr.indexAt, Sem.run_bind, run_asIntOf, run_underlying ht, Result.andThen, Instr.sureAddr]
          have hc : (0 : Int) ≤ k ∧ (k : Int) < len := by omega
          simp [Sem.run, pure, Result.andThen, run_underlying ht, run_sizeOf hs, addr_add, hc]
        split at h
        · simp at h
          subst h
          have hxt := hx.toT
          cases hxt with
          | ip b o cs hD c hc hr =>
            refine ⟨_, hrun b o, .t _ _ (.ip b (o + k * size) _ hD (fun j => c (k * size + j)) (fun j hj => ?_) (fun j u hu => ?_))⟩
            · rw [Nat.add_assoc]; exact hc _ (by simp at hj; omega)
            · simp only [List.getElem?_drop] at hu
              exact hr _ u hu
        · rename_i o e i off
          simp at h
          subst h
          cases hx with
          | ref _ _ _ _ b k' hb =>
            refine ⟨_, hrun b _, ?_⟩
            rw [Nat.add_assoc]
            exact .ref o e i _ b k' hb
        · simp at h
      · simp [hlt] at h
  · rename_i elem j ht hj
    obtain ⟨ik, rfl⟩ := asNat_rep hi hj
    have hrun : ∀ (b o len cap size : Nat), szOf P elem = some size → j < len → (Instr.indexAt t (.slice (some ⟨b, o, none⟩) len cap) (.int ik j)).run P w = .ok (.pointer (some ⟨b, o + j * size, none⟩)) w := by
      intro b o len cap size hs hlt
      simp only [Instr.indexAt, Sem.run_bind, run_asIntOf, run_underlying ht, Result.andThen]
      have hc : (0 : Int) ≤ j ∧ (j : Int) < len := by omega
      simp [Sem.run, pure, Result.andThen, run_underlying ht, run_sizeOf hs, addr_add, hc]
    split at h
    · rename_i clip k xs size hs
      cases hv : xs[j]? with
      | none => simp [hv] at h
      | some v =>
        simp only [hv] at h
        by_cases hk : k = size
        · subst hk
          simp at h
          subst h
          have hxt := hx.toT
          cases hxt with
          | nosl => simp at hv
          | sl b o len cap _ _ _ hD hlen hcap hclip hkk c hc hr =>
            have hjl : j < len := by rw [hlen]; exact (List.getElem?_eq_some_iff.1 hv).1
            have hvl := hkk j v hv
            refine ⟨_, hrun b o len cap k hs hjl, .t _ _ (.ip b (o + j * k) _ hD (fun i => c (j * k + i)) (fun i hi' => ?_) (fun i u hu => hr j v i u hv hu))⟩
            rw [Nat.add_assoc]
            refine hc _ ?_
            have h1 : (j + 1) * k ≤ len * k := Nat.mul_le_mul_right k hjl
            have h2 : (j + 1) * k = j * k + k := Nat.succ_mul j k
            omega
        · simp [hk] at h
    · rename_i o e i len k clip size hs
      by_cases hc : j < len ∧ k = size
      · rw [if_pos hc] at h
        obtain ⟨hjl, rfl⟩ := hc
        simp at h
        subst h
        cases hx with
        | ms0 => omega
        | ms _ _ _ _ _ _ b cap n hb hle hcap hclip hn hsz =>
          refine ⟨_, hrun b (i * k) len cap k hs hjl, ?_⟩
          have : i * k + j * k = (i + j) * k + 0 := by rw [Nat.add_mul]; omega
          rw [this]
          exact .ref o e (i + j) 0 b k hb
      · simp [hc] at h
    · simp at h
  · simp at h

/-- A part of an aggregate's cells. -/
theorem run_part {t : TypeId} {cs : Array Value} {xs : List AV} {off : Nat} {y : AV} (h : takeVar P t (xs.drop off) = some y) (hl : cs.size = xs.length)
    (hr : ∀ (i : Nat) v x, cs[i]? = some v → xs[i]? = some x → Rep D β w v x) : ∃ v, (part t cs off).run P w = .ok v w ∧ Rep D β w v y := by
  unfold takeVar at h
  cases ha : aggB P t with
  | none => simp [ha] at h
  | some ab =>
    cases ab with
    | true =>
      cases hs : szOf P t with
      | none => simp [ha, hs] at h
      | some n =>
        simp only [ha, hs] at h
        by_cases hn : n ≤ (xs.drop off).length
        · rw [if_pos hn] at h
          simp at h
          subst h
          refine ⟨.agg (cs.extract off (off + n)), by simp [part, run_isAgg ha, run_sizeOf hs, Result.andThen, Sem.run, pure], ?_⟩
          refine Rep.mkAgg (by simp at hn ⊢; omega) fun i v u hv hu => ?_
          have hi : i < n := by
            have := (List.getElem?_eq_some_iff.1 hu).1
            simp at this; omega
          refine hr (off + i) v u ?_ (by simpa [List.getElem?_take, hi] using hu)
          rw [Array.getElem?_extract] at hv
          split at hv
          · exact hv
          · simp at hv
        · rw [if_neg hn] at h; simp at h
    | false =>
      simp only [ha] at h
      have h0 : xs[off]? = some y := by
        cases hd : xs.drop off with
        | nil => simp [hd] at h
        | cons c r =>
          simp [hd] at h
          subst h
          have := List.getElem?_drop (xs := xs) (i := off) (j := 0)
          simpa [hd] using this.symm
      have hlt : off < cs.size := by rw [hl]; exact (List.getElem?_eq_some_iff.1 h0).1
      refine ⟨cs[off], by simp [part, run_isAgg ha, Result.andThen, Sem.run, pure, hlt], hr off _ y (by simp [hlt]) h0⟩

theorem aFieldVal_run {s : TypeId} {x y : AV} {f off : Nat} {t : TypeId} {vx : Value} (hf : aField P s f = some (t, off)) (ha : x.isAgg = true) (h : takeVar P t (x.cells.drop off) = some y) (hx : Rep D β w vx x) :
    ∃ v, (Instr.field s vx f).run P w = .ok v w ∧ Rep D β w v y := by
  obtain ⟨fields, fd, n, hs, hfd, rfl, rfl, hn⟩ := aField_some hf
  obtain ⟨cs, rfl⟩ := isAgg_cells hx ha
  have hc := hx.cells (by rintro rfl; simp [AV.isAgg] at ha)
  obtain ⟨v, h1, h2⟩ := run_part (P := P) h hc.1 hc.2
  have h1' : (part fd.type cs fd.offset).run P w = .ok v w := h1
  exact ⟨v, by simpa [Instr.field, run_underlying hs, Result.andThen, hfd, asAgg, Sem.run, pure] using h1', h2⟩

theorem aIndex_run {t : TypeId} {x ix y : AV} {vx vi : Value} (h : aIndex P t x ix = some y) (hx : Rep D β w vx x) (hi : Rep D β w vi ix) :
    ∃ v, (Instr.index t vx vi).run P w = .ok v w ∧ Rep D β w v y := by
  unfold aIndex at h
  split at h
  · rename_i len elem k ht hk
    obtain ⟨ik, rfl⟩ := asNat_rep hi hk
    split at h
    · rename_i size hs ha
      by_cases hlt : k < len
      · rw [if_pos hlt] at h
        obtain ⟨cs, rfl⟩ := isAgg_cells hx ha
        have hc := hx.cells (by rintro rfl; simp [AV.isAgg] at ha)
        obtain ⟨v, h1, h2⟩ := run_part (P := P) h hc.1 hc.2
        refine ⟨v, ?_, h2⟩
        have h1' : (part elem cs (k * size)).run P w = .ok v w := h1
        simpa [Instr.index, run_asIntOf, run_underlying ht, Result.andThen, hlt, run_sizeOf hs] using h1'
      · simp [hlt] at h
    · simp at h
  · rename_i k ht hk
    obtain ⟨ik, rfl⟩ := asNat_rep hi hk
    split at h
    · rename_i s
      obtain ⟨rfl, _⟩ := hx.toT.sc_eq
      split at h
      · rename_i b hb
        simp at h
        subst h
        refine ⟨.int .u8 b.toNat, ?_, .t _ _ (.sc _ rfl)⟩
        simp [Instr.index, run_asIntOf, run_underlying ht, Result.andThen, hb, Sem.run, pure]
      · simp at h
    · simp at h
  · simp at h

end Go.Abs
