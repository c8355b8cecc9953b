/- One operation: what the evaluator says of it is what the model does. -/
import Derived.Test.YtkamfflnfnjbeaaAbsOpI
set_option linter.unusedSimpArgs false
set_option linter.unusedVariables false
namespace Go.Abs
open Go

variable {P : Program} {pol : Pol} {f : FuncId} {Z : Base} {D : Dom} {β : Bet} {w : World} {h h' : Heap} {ρ : Operand → AV} {ρr : Operand → Value}

def Good [Cp] (Z : Base) (D : Dom) (β : Bet) (w : World) (h h' : Heap) (tch : List Nat) (v : AV) (r : Result Next) : Prop :=
  Done Z D β w h' (stepS tch h h') v r ∧ (∀ o : Nat, ¬ stepS tch h h' o → h'[o]? = h[o]?) ∧ h.length ≤ h'.length

theorem Good.ofPure [Cp] {tch : List Nat} {v : AV} {v' : Value} {r : Result Next} (hg : GInv Z D β w) (hr : r = .ok (.value v') w) (hv : Rep D β w v' v)
    (hobj : ∀ (o : Nat) y, o ∈ tch → h[o]? = some y → ObjOk D β w o y) : Good Z D β w h h tch v r := by
  subst hr
  refine ⟨Done.pure hg hv (fun o y ho hy => ?_), fun _ _ => rfl, Nat.le_refl _⟩
  rcases ho with ho | ho
  · exact hobj o y ho hy
  · omega

theorem Good.ofEx [Cp] {tch : List Nat} {v : AV} {m : Sem Value} {r : Result Next} (hg : GInv Z D β w) (hr : r = (do pure (Next.value (← m)) : Sem Next).run P w) (hv : ∃ v', m.run P w = .ok v' w ∧ Rep D β w v' v)
    (hobj : ∀ (o : Nat) y, o ∈ tch → h[o]? = some y → ObjOk D β w o y) : Good Z D β w h h tch v r := by
  obtain ⟨v', h1, h2⟩ := hv
  refine Good.ofPure hg ?_ h2 hobj
  rw [hr]
  simp only [Sem.run_bind, h1, Result.andThen, Sem.run_pure]

theorem zipT_rep (hρ : ∀ x, Rep D β w (ρr x) (ρ x)) (ps : Array (Nat × Operand)) : PartsRep D β w (ps.map fun (i, x) => (i, ρr x)).toList (zipT ρ ps.toList) := by
  have key : ∀ l : List (Nat × Operand), PartsRep D β w (l.map fun (i, x) => (i, ρr x)) (zipT ρ l) := by
    intro l
    induction l with
    | nil => exact ⟨rfl, by simp⟩
    | cons p r ih =>
      obtain ⟨i, x⟩ := p
      refine ⟨by simpa [zipT] using ih.1, fun j a b ha hb => ?_⟩
      cases j with
      | zero => simp [zipT] at ha hb; subst ha; subst hb; exact ⟨rfl, hρ x⟩
      | succ j => exact ih.2 j a b (by simpa using ha) (by simpa [zipT] using hb)
  simpa using key ps.toList

theorem optRep_map (hρ : ∀ x, Rep D β w (ρr x) (ρ x)) (x : Option Operand) : OptRep D β w (x.map ρr) (x.map ρ) := by
  cases x with
  | none => trivial
  | some x => exact hρ x

theorem grow_none_done [Cp] {size : Nat} (hg : GInv Z D β w) (hn : ∀ e, β h.length e = none) :
    Good Z D β w h (h ++ [.row size [] 0]) [] (.ms h.length 0 0 0 size false) (.ok (.value (.slice none 0 0)) w) := by
  refine ⟨⟨_, w, D, β, rfl, .ms0 none _ _ _ _ _, .refl D β w, hg, fun o y ho hy => ?_, fun o e y hy => .inl ⟨e, y, hy⟩⟩, fun o ho => append_new_get h _ _ o ho, by simp⟩
  rcases ho with ho | ⟨h1, h2⟩
  · simp at ho
  · have e : o = h.length := by simp at h2; omega
    subst e
    rw [get_append_new] at hy
    cases hy
    exact ⟨by simp, fun e b k hb => by rw [hn] at hb; cases hb⟩

/-- A variable that holds a nil slice which will grow: two objects. -/
theorem grow_var_done [Cp] {size : Nat} {ty : TypeId} (hg : GInv Z D β w) (hn : ∀ o e, h.length ≤ o → o ≤ h.length + 1 → β o e = none) :
    Good Z D β w h (h ++ [.row size [] 0, .row 1 [.ms h.length 0 0 0 size false] 0]) [] (.ref (h.length + 1) 1 0 0)
      (.ok (.value (.pointer (some ⟨w.heap.size, 0, none⟩))) (w.alloc (.cells #[.slice none 0 0] ty (0, 0)))) := by
  have hfl : FlatRep D β w 1 #[.slice none 0 0] [.ms h.length 0 0 0 size false] := by
    have := FlatRep.one (D := D) (β := β) (w := w) (v := .slice none 0 0) (x := .ms h.length 0 0 0 size false) (.ms0 none _ _ _ _ _) rfl (by simp)
    simpa [AV.cells, Value.cells] using this
  obtain ⟨fr, g, ob⟩ := row_new (ty := ty) (n := h.length + 1) hg hfl (fun e => hn _ e (by omega) (by omega))
  have hlen : (h ++ [AObj.row size [] 0, AObj.row 1 [.ms h.length 0 0 0 size false] 0]).length = h.length + 2 := by simp
  have g0 : (h ++ [AObj.row size [] 0, AObj.row 1 [.ms h.length 0 0 0 size false] 0])[h.length]? = some (.row size [] 0) := by simp
  have g1 : (h ++ [AObj.row size [] 0, AObj.row 1 [.ms h.length 0 0 0 size false] 0])[h.length + 1]? = some (.row 1 [.ms h.length 0 0 0 size false] 0) := by simp
  refine ⟨⟨_, _, D, _, rfl, ?_, fr.mono (fun o ho => by subst ho; exact .inr ⟨by omega, by omega⟩), g, fun o y ho hy => ?_, dom_bAdd (by omega)⟩, fun o ho => ?_, by omega⟩
  · have := Rep.ref (D := D) (w := w.alloc (.cells #[.slice none 0 0] ty (0, 0))) (h.length + 1) 1 0 0 w.heap.size 1 (bAdd_same β (h.length + 1) 1 w.heap.size 1)
    simpa using this
  · rcases ho with ho | ⟨h1, h2⟩
    · simp at ho
    · have e : o = h.length ∨ o = h.length + 1 := by omega
      rcases e with rfl | rfl
      · rw [g0] at hy
        cases hy
        refine ⟨by simp, fun e b k hb => ?_⟩
        rw [bAdd_other (by omega), hn _ _ (Nat.le_refl _) (by omega)] at hb
        cases hb
      · rw [g1] at hy
        cases hy
        exact ob
  · by_cases hlt : o < h.length
    · rw [List.getElem?_append_left hlt]
    · have : h.length + 2 ≤ o := by
        rcases Nat.lt_or_ge o (h.length + 2) with h3 | h3
        · exact absurd (.inr ⟨by omega, by omega⟩) ho
        · exact h3
      have e1 : (h ++ [AObj.row size [] 0, AObj.row 1 [.ms h.length 0 0 0 size false] 0])[o]? = none := by
        rw [List.getElem?_eq_none]; omega
      have e2 : h[o]? = none := by rw [List.getElem?_eq_none]; omega
      rw [e1, e2]

theorem flagSome {x : Option AV} {h : Heap} {r : Res} (hx : (match x with | some v => some (Res.val v h) | none => none) = some r) : ∃ v, x = some v ∧ r = .val v h := by
  cases x with
  | none => simp at hx
  | some v => simp at hx; exact ⟨v, rfl, hx.symm⟩

theorem isSliceT_some {t : TypeId} (h : isSliceT P t = true) : ∃ e, typ P t = some (.slice e) := by
  unfold isSliceT at h
  split at h
  · rename_i e he; exact ⟨e, he⟩
  · simp at h

theorem sl_some {v : Value} {clip : Bool} {k : Nat} {x : T} {xs : List T} (h : RepT D w v (.sl clip k (x :: xs))) : ∃ a len cap, v = .slice (some a) len cap := by
  cases h with
  | sl b off len cap _ _ _ hD hlen hcap hclip hk c hc hr => exact ⟨_, _, _, rfl⟩

theorem ms_some {v : Value} {o e i n k : Nat} {clip : Bool} (h : Rep D β w v (.ms o e i (n + 1) k clip)) : ∃ a len cap, v = .slice (some a) len cap := by
  rcases ms_inv h with ⟨h0, _⟩ | ⟨b, cap, m, _, _, _, _, _, _, hv⟩
  · omega
  · exact ⟨_, _, _, hv⟩

theorem slice_eq_run {t e : TypeId} (ht : typ P t = some (.slice e)) (a : Option Addr) (l c : Nat) (ox oy : Operand) (op : BinOp) :
    ((eqGuard op t ox oy (.slice a l c) (.slice none 0 0)).run P w = .ok () w ∧ (binOp .eql t (.slice a l c) (.slice none 0 0)).run P w = .ok (.bool a.isNone) w ∧ (binOp .neq t (.slice a l c) (.slice none 0 0)).run P w = .ok (.bool !a.isNone) w) ∧
    ((eqGuard op t ox oy (.slice none 0 0) (.slice a l c)).run P w = .ok () w ∧ (binOp .eql t (.slice none 0 0) (.slice a l c)).run P w = .ok (.bool a.isNone) w ∧ (binOp .neq t (.slice none 0 0) (.slice a l c)).run P w = .ok (.bool !a.isNone) w) := by
  have g1 : (eqGuard op t ox oy (.slice a l c) (.slice none 0 0)).run P w = .ok () w := by
    unfold eqGuard; cases op <;> rfl
  have g2 : (eqGuard op t ox oy (.slice none 0 0) (.slice a l c)).run P w = .ok () w := by
    unfold eqGuard; cases op <;> rfl
  have gen1 : ∀ d, (Op.equalIn (d + 1) t (.slice a l c) (.slice none 0 0)).run P w = .ok a.isNone w := by
    intro d
    cases a <;> simp only [Op.equalIn, Sem.run_bind, run_underlying ht, Result.andThen] <;> rfl
  have gen2 : ∀ d, (Op.equalIn (d + 1) t (.slice none 0 0) (.slice a l c)).run P w = .ok a.isNone w := by
    intro d
    cases a <;> simp only [Op.equalIn, Sem.run_bind, run_underlying ht, Result.andThen] <;> rfl
  have q1 : (Op.equal t (.slice a l c) (.slice none 0 0)).run P w = .ok a.isNone w := gen1 9999
  have q2 : (Op.equal t (.slice none 0 0) (.slice a l c)).run P w = .ok a.isNone w := gen2 9999
  refine ⟨⟨g1, ?_, ?_⟩, g2, ?_, ?_⟩
  · simp [binOp, q1, Result.andThen]
  · simp [binOp, q1, Result.andThen]
  · simp [binOp, q2, Result.andThen]
  · simp [binOp, q2, Result.andThen]

theorem aEq_run {t : TypeId} {x y : AV} {vx vy : Value} {b : Bool} (h : aEq P t x y = some b) (hx : Rep D β w vx x) (hy : Rep D β w vy y) (op : BinOp) (ox oy : Operand) :
    (eqGuard op t ox oy vx vy).run P w = .ok () w ∧ (binOp .eql t vx vy).run P w = .ok (.bool b) w ∧ (binOp .neq t vx vy).run P w = .ok (.bool !b) w := by
  unfold aEq at h
  split at h
  · rename_i xs ys
    by_cases hgt : P.eqGuardType P.depth t = true
    · simp [hgt] at h
    · rw [if_neg hgt] at h
      have he := eqIn_run (P := P) (D := D) (w := w) 20 t _ _ b vx vy h hx.toT hy.toT 10000 (by decide)
      have hx' := hx.toT
      have hy' := hy.toT
      cases hx' with
      | agg cx _ _ _ =>
        cases hy' with
        | agg cy _ _ _ =>
          refine ⟨?_, ?_, ?_⟩
          · unfold eqGuard
            cases op <;> simp [program, Sem.run, bind, Sem.bind, hgt, pure]
          · rw [run_eql_struct, he]; rfl
          · rw [run_neq_struct, he]; rfl
  · obtain ⟨rfl, _⟩ := hx.toT.sc_eq
    obtain ⟨rfl, _⟩ := hy.toT.sc_eq
    by_cases hs : isSliceT P t = true
    · obtain ⟨e, ht⟩ := isSliceT_some hs
      simp [hs] at h; subst h
      exact (slice_eq_run ht none 0 0 ox oy op).1
    · simp [hs] at h
  · obtain ⟨a, l, c, rfl⟩ := sl_some hx.toT
    obtain ⟨rfl, _⟩ := hy.toT.sc_eq
    by_cases hs : isSliceT P t = true
    · obtain ⟨e, ht⟩ := isSliceT_some hs
      simp [hs] at h; subst h
      exact (slice_eq_run ht (some a) l c ox oy op).1
    · simp [hs] at h
  · obtain ⟨a, l, c, rfl⟩ := sl_some hy.toT
    obtain ⟨rfl, _⟩ := hx.toT.sc_eq
    by_cases hs : isSliceT P t = true
    · obtain ⟨e, ht⟩ := isSliceT_some hs
      simp [hs] at h; subst h
      exact (slice_eq_run ht (some a) l c ox oy op).2
    · simp [hs] at h
  · obtain ⟨a, l, c, rfl⟩ := ms_some hx
    obtain ⟨rfl, _⟩ := hy.toT.sc_eq
    by_cases hs : isSliceT P t = true
    · obtain ⟨e, ht⟩ := isSliceT_some hs
      simp [hs] at h; subst h
      exact (slice_eq_run ht (some a) l c ox oy op).1
    · simp [hs] at h
  · obtain ⟨a, l, c, rfl⟩ := ms_some hy
    obtain ⟨rfl, _⟩ := hx.toT.sc_eq
    by_cases hs : isSliceT P t = true
    · obtain ⟨e, ht⟩ := isSliceT_some hs
      simp [hs] at h; subst h
      exact (slice_eq_run ht (some a) l c ox oy op).2
    · simp [hs] at h
  · simp at h

theorem aBin_run {t : TypeId} {op : BinOp} {x y v : AV} {vx vy : Value} {ox oy : Operand} (h : aBin P op t ox oy x y = some v) (hx : Rep D β w vx x) (hy : Rep D β w vy y) :
    ∃ v', (do eqGuard op t ox oy vx vy; binOp op t vx vy : Sem Value).run P w = .ok v' w ∧ Rep D β w v' v := by
  have eqc : ∀ b, aEq P t x y = some b → (op = .eql → v = .t (.sc (.bool b)) → ∃ v', (do eqGuard op t ox oy vx vy; binOp op t vx vy : Sem Value).run P w = .ok v' w ∧ Rep D β w v' v) ∧
      (op = .neq → v = .t (.sc (.bool !b)) → ∃ v', (do eqGuard op t ox oy vx vy; binOp op t vx vy : Sem Value).run P w = .ok v' w ∧ Rep D β w v' v) := by
    intro b hb
    obtain ⟨g1, g2, g3⟩ := aEq_run hb hx hy op ox oy
    refine ⟨fun e1 e2 => ?_, fun e1 e2 => ?_⟩
    · subst e1; subst e2
      exact ⟨.bool b, by simp [g1, Result.andThen, g2], .t _ _ (.sc _ rfl)⟩
    · subst e1; subst e2
      exact ⟨.bool !b, by simp [g1, Result.andThen, g3], .t _ _ (.sc _ rfl)⟩
  unfold aBin at h
  split at h
  · split at h
    · split at h
      · rename_i b hb; simp at h; exact (eqc b hb).1 rfl h.symm
      · simp at h
    · split at h
      · rename_i b hb; simp at h; exact (eqc b hb).2 rfl h.symm
      · simp at h
    · simp at h
  · rename_i a b _
    obtain ⟨rfl, _⟩ := hx.toT.sc_eq
    obtain ⟨rfl, _⟩ := hy.toT.sc_eq
    split at h
    · rename_i r hr
      by_cases ho : okVal r = true
      · simp [ho] at h; subst h
        exact ⟨r, pureRun_run hr w, .t _ _ (okVal_rep ho)⟩
      · simp [ho] at h
    · simp at h
  · split at h
    · split at h
      · rename_i b hb; simp at h; exact (eqc b hb).1 rfl h.symm
      · simp at h
    · split at h
      · rename_i b hb; simp at h; exact (eqc b hb).2 rfl h.symm
      · simp at h
    · simp at h


theorem len_run [Cp] {at_ : Array TypeId} {ty : TypeId} {x v : AV} {vx : Value} (hb : aBuiltin P .len at_.toList ty [x] h = some (.val v h')) (hx : Rep D β w vx x)
    (hobj : ∀ (o : Nat) y, o ∈ objsOf x → h[o]? = some y → ObjOk D β w o y) : h' = h ∧ ∃ v', (Builtin.len_ at_ ty #[vx]).run P w = .ok v' w ∧ Rep D β w v' v := by
  simp only [aBuiltin] at hb
  split at hb
  · rename_i t hat
    have hat0 : at_[0]? = some t := by rw [← Array.getElem?_toList, hat]; rfl
    cases ht : typ P t with
    | none => simp [ht] at hb
    | some d =>
      simp only [ht] at hb
      split at hb
      · rename_i e hd
        simp at hd; subst hd
        split at hb
        · rename_i n hn
          simp at hb
          obtain ⟨rfl, rfl⟩ := hb
          refine ⟨rfl, .int .i64 n, ?_, .t _ _ (.sc _ rfl)⟩
          unfold lenOf at hn
          split at hn
          · rename_i clip k xs
            obtain ⟨a, cap, rfl, _, _⟩ := Rep.slice_form hx.toT
            simp at hn; subst hn
            simp [Builtin.len_, hat0, run_underlying ht, Result.andThen, goInt]
          · obtain ⟨rfl, _⟩ := hx.toT.sc_eq
            simp at hn; subst hn
            simp [Builtin.len_, hat0, run_underlying ht, Result.andThen, goInt]
          · rename_i o e i len k clip
            obtain ⟨a, cap, rfl, _, _⟩ := ms_form hx
            simp at hn; subst hn
            simp [Builtin.len_, hat0, run_underlying ht, Result.andThen, goInt]
          · simp at hn
        · simp at hb
      · rename_i hd
        simp at hd; subst hd
        split at hb
        · rename_i s
          obtain ⟨rfl, _⟩ := hx.toT.sc_eq
          simp at hb
          obtain ⟨rfl, rfl⟩ := hb
          exact ⟨rfl, .int .i64 s.size, by simp [Builtin.len_, hat0, run_underlying ht, Result.andThen, goInt], .t _ _ (.sc _ rfl)⟩
        · simp at hb
      · rename_i n e hd
        simp at hd; subst hd
        simp at hb
        obtain ⟨rfl, rfl⟩ := hb
        exact ⟨rfl, .int .i64 n, by simp [Builtin.len_, hat0, run_underlying ht, Result.andThen, goInt], .t _ _ (.sc _ rfl)⟩
      · rename_i a hd
        simp at hd; subst hd
        split at hb
        · rename_i n e hta
          simp at hb
          obtain ⟨rfl, rfl⟩ := hb
          exact ⟨rfl, .int .i64 n, by simp [Builtin.len_, hat0, run_underlying ht, run_underlying hta, Result.andThen, goInt], .t _ _ (.sc _ rfl)⟩
        · simp at hb
      · rename_i kt e hd
        simp at hd; subst hd
        split at hb
        · rename_i o
          split at hb
          · rename_i es ho
            simp at hb
            obtain ⟨rfl, rfl⟩ := hb
            cases hx with
            | mp _ b kk hbb =>
              obtain ⟨_, hD, mes, clock, h1, h2, h3⟩ := hobj o _ (by simp [objsOf]) ho 0 b kk hbb
              have hget : (getObj b).run P w = .ok (.map mes clock) w := by simp [getObj, Sem.run, h1]
              exact ⟨rfl, .int .i64 es.length, by simp [Builtin.len_, hat0, run_underlying ht, Result.andThen, goInt, hget, h2], .t _ _ (.sc _ rfl)⟩
          · simp at hb
        · simp at hb
      · simp at hb
  · simp at hb

end Go.Abs
