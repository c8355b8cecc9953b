/- All operations but calls of functions. -/
import Derived.Test.YtkamfflnfnjbeaaAbsOp
set_option linter.unusedSimpArgs false
set_option linter.unusedVariables false
namespace Go.Abs
open Go

variable {P : Program} {pol : Pol} {f : FuncId} {Z : Base} {D : Dom} {β : Bet} {w : World} {h h' : Heap} {ρ : Operand → AV} {ρr : Operand → Value}

/-- The value of an operation, or nothing where it has none. -/
def resVal : Res → Option (AV × Heap)
  | .val v h => some (v, h)
  | .skip h => some (.t (.sc undef), h)
  | .call _ _ => none

theorem minmax_inv {at_ : List TypeId} {ty : TypeId} {X Y : AV} {r : Res} {b : Builtin} (hb : b = .min ∨ b = .max) (ha : aBuiltin P b at_ ty [X, Y] h = some r) :
    ∃ k a k' c, X = .t (.sc (.int k a)) ∧ Y = .t (.sc (.int k' c)) ∧ ((b = .min ∧ r = .val (.t (.sc (.int k (if c < a then c else a)))) h) ∨ (b = .max ∧ r = .val (.t (.sc (.int k (if a < c then c else a)))) h)) := by
  unfold aBuiltin at ha
  rcases hb with rfl | rfl
  · split at ha <;> simp_all
    exact ⟨_, _, ⟨rfl, rfl⟩, _, _, ⟨rfl, rfl⟩, ha.symm⟩
  · split at ha <;> simp_all
    exact ⟨_, _, ⟨rfl, rfl⟩, _, _, ⟨rfl, rfl⟩, ha.symm⟩

theorem builtin_good [Cp] {o : Oper} {c : Call} {b : Builtin} {r : Res} {v : AV} (ho : o.op = .call c) (hc : c.callee = .builtin b) (ha : aBuiltin P b c.argTypes.toList o.type (c.args.toList.map ρ) h = some r) (hv : resVal r = some (v, h'))
    (hg : GInv Z D β w) (hρ : ∀ x, Rep D β w (ρr x) (ρ x)) (hn : ∀ o e, h.length ≤ o → o < h'.length → β o e = none)
    (hobj : ∀ (o' : Nat) y, o' ∈ (touch0 pol f ρ o).getD [] → h[o']? = some y → ObjOk D β w o' y) :
    Good Z D β w h h' ((touch0 pol f ρ o).getD []) v ((execOp ρr o).run P w) := by
  have hex : ∀ vs, c.args.map ρr = vs → ∃ cs, (execOp ρr o).run P w = (builtin b c.argTypes o.type cs vs).run P w := by
    intro vs hvs
    exact ⟨_, by simp only [execOp, ho, resolve, hc, Sem.run_bind, Sem.run_pure, Result.andThen, invoke, hvs]; rfl⟩
  have hargs : ∀ l : List Operand, c.args.toList = l → c.args.map ρr = (l.map ρr).toArray := by
    intro l hl
    apply Array.ext'
    simp [hl]
  cases hl : c.args.toList with
  | nil => rw [hl] at ha; cases b <;> simp [aBuiltin] at ha
  | cons x l =>
    cases hl2 : l with
    | nil =>
      subst hl2
      rw [hl] at ha
      cases b <;> simp only [List.map_cons, List.map_nil] at ha <;> try (simp [aBuiltin] at ha; done)
      -- len
      have htch : (touch0 pol f ρ o).getD [] = objsOf (ρ x) := by simp [touch0, ho, hc, hl]
      rw [htch] at hobj ⊢
      cases r with
      | skip _ => simp only [aBuiltin] at ha; repeat (split at ha <;> try (simp at ha))
      | call _ _ => simp only [aBuiltin] at ha; repeat (split at ha <;> try (simp at ha))
      | val v0 h0 =>
        simp [resVal] at hv
        obtain ⟨rfl, rfl⟩ := hv
        obtain ⟨rfl, hr⟩ := len_run (P := P) ha (hρ x) hobj
        obtain ⟨cs, hcs⟩ := hex _ (hargs _ hl)
        refine Good.ofEx hg ?_ hr hobj
        rw [hcs]
        rfl
    | cons y l =>
      cases hl3 : l with
      | cons z l => subst hl2; subst hl3; rw [hl] at ha; cases b <;> simp [aBuiltin] at ha
      | nil =>
        subst hl2; subst hl3
        rw [hl] at ha
        obtain ⟨cs, hvs⟩ := hex _ (hargs _ hl)
        cases b <;> simp only [List.map_cons, List.map_nil] at ha hvs <;> try (simp [aBuiltin] at ha; done)
        · -- append
          have htch : (touch0 pol f ρ o).getD [] = objsOf (ρ x) ++ objsOf (ρ y) := by simp [touch0, ho, hc, hl]
          rw [htch] at hobj ⊢
          simp only [aBuiltin] at ha
          split at ha
          · rename_i t u hat
            split at ha
            · rename_i eu hu
              split at ha
              · rename_i v0 h0 happ
                simp at ha
                subst ha
                simp [resVal] at hv
                obtain ⟨rfl, rfl⟩ := hv
                have hat' : c.argTypes = #[t, u] := by apply Array.ext'; simp [hat]
                have := aAppend_done (ty := o.type) hg happ hu (hρ x) (hρ y) (fun hl e => hn _ e (Nat.le_refl _) hl) hobj
                rw [hvs, hat']
                exact this
              · simp at ha
            · simp at ha
          · simp at ha
        · -- copy
          have htch : (touch0 pol f ρ o).getD [] = objsOf (ρ x) ++ objsOf (ρ y) := by simp [touch0, ho, hc, hl]
          rw [htch] at hobj ⊢
          simp only [aBuiltin] at ha
          split at ha
          · rename_i t rest hat
            split at ha
            · rename_i v0 h0 happ
              simp at ha
              subst ha
              simp [resVal] at hv
              obtain ⟨rfl, rfl⟩ := hv
              have hat0 : c.argTypes[0]? = some t := by rw [← Array.getElem?_toList, hat]; rfl
              have := aCopy_done (ty := o.type) hg happ hat0 (hρ x) (hρ y) hobj
              rw [hvs]
              exact this
            · simp at ha
          · simp at ha
        · -- max
          have htch : (touch0 pol f ρ o).getD [] = [] := by simp [touch0, ho, hc]
          rw [htch] at hobj ⊢
          obtain ⟨k, a, k', e, hx, hy, hr⟩ := minmax_inv (.inr rfl) ha
          simp at hr
          subst hr
          simp [resVal] at hv
          obtain ⟨rfl, rfl⟩ := hv
          have h1 := hρ x
          have h2 := hρ y
          rw [hx] at h1
          rw [hy] at h2
          have e1 := h1.toT.sc_eq.1
          have e2 := h2.toT.sc_eq.1
          refine Good.ofPure hg ?_ (.t _ _ (.sc _ rfl)) hobj
          rw [hvs, e1, e2]
          rfl
        · -- min
          have htch : (touch0 pol f ρ o).getD [] = [] := by simp [touch0, ho, hc]
          rw [htch] at hobj ⊢
          obtain ⟨k, a, k', e, hx, hy, hr⟩ := minmax_inv (.inl rfl) ha
          simp at hr
          subst hr
          simp [resVal] at hv
          obtain ⟨rfl, rfl⟩ := hv
          have h1 := hρ x
          have h2 := hρ y
          rw [hx] at h1
          rw [hy] at h2
          have e1 := h1.toT.sc_eq.1
          have e2 := h2.toT.sc_eq.1
          refine Good.ofPure hg ?_ (.t _ _ (.sc _ rfl)) hobj
          rw [hvs, e1, e2]
          rfl

theorem repL_map (hρ : ∀ x, Rep D β w (ρr x) (ρ x)) (l : Array Operand) (i : Nat) (v : Value) (x : AV) (hv : (l.map ρr)[i]? = some v) (hx : (l.toList.map ρ)[i]? = some x) : Rep D β w v x := by
  rw [Array.getElem?_map, Option.map_eq_some_iff] at hv
  rw [List.getElem?_map, Option.map_eq_some_iff] at hx
  obtain ⟨a, ha, rfl⟩ := hv
  obtain ⟨b, hb, rfl⟩ := hx
  rw [Array.getElem?_toList, ha] at hb
  cases hb
  exact hρ a

set_option maxHeartbeats 1000000 in
theorem op_good [Cp] {o : Oper} {r : Res} {v : AV} (ha : aOp P pol f ρ h o = some r) (hv : resVal r = some (v, h')) (hg : GInv Z D β w) (hρ : ∀ x, Rep D β w (ρr x) (ρ x)) (hn : ∀ o e, h.length ≤ o → o < h'.length → β o e = none)
    (hobj : ∀ (o' : Nat) y, o' ∈ (touch0 pol f ρ o).getD [] → h[o']? = some y → ObjOk D β w o' y) :
    Good Z D β w h h' ((touch0 pol f ρ o).getD []) v ((execOp ρr o).run P w) := by
  have hn0 : h.length < h'.length → ∀ e, β h.length e = none := fun hl e => hn _ e (Nat.le_refl _) hl
  have flag : ∀ {x : Option AV}, (match x with | some v => some (Res.val v h) | none => none) = some r → x = some v ∧ h' = h := by
    intro x hx
    obtain ⟨v0, h1, h2⟩ := flagSome hx
    subst h2
    simp [resVal] at hv
    exact ⟨by rw [h1, hv.1], hv.2.symm⟩
  have val : ∀ {v0 : AV} {h0 : Heap}, some (Res.val v0 h0) = some r → v0 = v ∧ h' = h0 := by
    intro v0 h0 e
    cases e
    simp [resVal] at hv
    exact ⟨hv.1, hv.2.symm⟩
  cases hop : o.op with
  | move x =>
    simp only [aOp, hop] at ha
    obtain ⟨rfl, rfl⟩ := val ha
    exact Good.ofPure hg (by simp [execOp, hop]) (hρ x) hobj
  | assign x =>
    simp only [aOp, hop] at ha
    have plain : Good Z D β w h h ((touch0 pol f ρ o).getD []) (ρ x) ((execOp ρr o).run P w) := Good.ofPure hg (by simp [execOp, hop]) (hρ x) hobj
    split at ha
    · split at ha
      · rename_i elem hx ht
        split at ha
        · rename_i size hs
          obtain ⟨rfl, rfl⟩ := val ha
          have htch : (touch0 pol f ρ o).getD [] = [] := by simp [touch0, hop]
          rw [htch]
          have hrx := hρ x
          rw [hx] at hrx
          have e := hrx.toT.sc_eq.1
          have : (execOp ρr o).run P w = .ok (.value (.slice none 0 0)) w := by simp [execOp, hop, e]
          rw [this]
          exact grow_none_done hg (hn0 (by simp))
        · simp at ha
      · obtain ⟨rfl, rfl⟩ := val ha
        exact plain
    · obtain ⟨rfl, rfl⟩ := val ha
      exact plain
  | pick c a b =>
    simp only [aOp, hop] at ha
    split at ha
    · rename_i cb hc
      have hrc := hρ c
      rw [hc] at hrc
      have ec := hrc.toT.sc_eq.1
      have hrun : (execOp ρr o).run P w = .ok (.value (if cb then ρr a else ρr b)) w := by simp [execOp, hop, ec, asBool, Result.andThen]
      split at ha
      · rename_i xb yb hx hy
        obtain ⟨rfl, rfl⟩ := val ha
        have hra := hρ a
        have hrb := hρ b
        rw [hx] at hra
        rw [hy] at hrb
        refine Good.ofPure hg hrun ?_ hobj
        rw [hra.toT.sc_eq.1, hrb.toT.sc_eq.1]
        cases cb
        · exact .t _ _ (.sc _ rfl)
        · exact .t _ _ (.sc _ rfl)
      · obtain ⟨rfl, rfl⟩ := val ha
        refine Good.ofPure hg hrun ?_ hobj
        cases cb
        · exact hρ b
        · exact hρ a
    · simp at ha
  | alloc t =>
    simp only [aOp, hop] at ha
    have htch : (touch0 pol f ρ o).getD [] = [] := by simp [touch0, hop]
    rw [htch]
    have hrunA : ∀ zv, (∀ w, (zeroValue t).run P w = .ok zv w) → (execOp ρr o).run P w = .ok (.value (.pointer (some ⟨w.heap.size, 0, none⟩))) (w.alloc (.cells zv.cells t (0, 0))) := by
      intro zv hzr
      simp [execOp, hop, Instr.alloc, hzr, newVar, run_newRow, Result.andThen]
    split at ha
    · split at ha
      · rename_i elem hz ht
        split at ha
        · rename_i size hs
          obtain ⟨rfl, rfl⟩ := val ha
          obtain ⟨zv, hok, hzo, hzr⟩ := zeroOf_val hz
          have hzv : zv = .slice none 0 0 := by
            have := okVal_rep (D := D) (w := w) hok
            rw [← hzo] at this
            exact this.sc_eq.1
          subst hzv
          rw [hrunA _ hzr]
          exact grow_var_done hg (fun o e h1 h2 => hn o e h1 (by simp; omega))
        · simp at ha
      · simp at ha
    · split at ha
      · rename_i z hz
        split at ha
        · rename_i hst
          obtain ⟨rfl, rfl⟩ := val ha
          obtain ⟨zv, hok, rfl, hzr⟩ := zeroOf_val hz
          rw [hrunA _ hzr]
          exact ⟨newVar_done hg (.t _ _ (okVal_rep hok)) hst (by simp) (hn0 (by simp)), fun o ho => append_new_get h _ _ o ho, by simp⟩
        · simp at ha
      · simp at ha
  | box t x =>
    simp only [aOp, hop] at ha
    have htch : (touch0 pol f ρ o).getD [] = [] := by simp [touch0, hop]
    rw [htch]
    have hrunB : (execOp ρr o).run P w = .ok (.value (.pointer (some ⟨w.heap.size, 0, none⟩))) (w.alloc (.cells (ρr x).cells t (0, 0))) := by
      simp [execOp, hop, box_run, Result.andThen]
    have cellar : ∀ y, ρ x = y → (h.length < h.length + 1 → ∀ e, β h.length e = none) → (storableAll y.cells && !y.cells.isEmpty) = true → Good Z D β w h (h ++ [.row y.cells.length [y] 0]) [] (.ref h.length 1 0 0) ((execOp ρr o).run P w) := by
      intro y hy hnx hst
      simp at hst
      rw [hrunB]
      have hrx := hρ x
      rw [hy] at hrx
      exact ⟨newVar_done hg hrx hst.1 (by rintro rfl; simp [AV.cells] at hst) (hnx (by simp)), fun o ho => append_new_get h _ _ o ho, by simp⟩
    split at ha
    · split at ha
      · rename_i elem hx ht
        split at ha
        · rename_i size hs
          obtain ⟨rfl, rfl⟩ := val ha
          have hrx := hρ x
          rw [hx] at hrx
          have e := hrx.toT.sc_eq.1
          rw [hrunB, e]
          exact grow_var_done hg (fun o e h1 h2 => hn o e h1 (by simp; omega))
        · simp at ha
      · split at ha
        · rename_i hst
          obtain ⟨rfl, rfl⟩ := val ha
          exact cellar _ rfl (fun _ => hn0 (by simp)) hst
        · simp at ha
    · split at ha
      · rename_i y hmu hx
        split at ha
        · rename_i hst
          obtain ⟨rfl, rfl⟩ := val ha
          have hrx := hρ x
          rw [hx] at hrx
          rw [hrunB]
          exact ⟨boxT_done hg hrx.toT hst, fun _ _ => rfl, Nat.le_refl _⟩
        · simp at ha
      · split at ha
        · rename_i hst
          obtain ⟨rfl, rfl⟩ := val ha
          exact cellar _ rfl (fun _ => hn0 (by simp)) hst
        · simp at ha
  | build t parts =>
    simp only [aOp, hop] at ha
    obtain ⟨hb, rfl⟩ := flag ha
    exact Good.ofEx hg (by simp only [execOp, hop]) (aBuild_run hb (zipT_rep hρ parts)) hobj
  | buildSlice t len parts =>
    simp only [aOp, hop] at ha
    have htch : (touch0 pol f ρ o).getD [] = [] := by simp [touch0, hop]
    rw [htch]
    split at ha
    · rename_i elem ht
      split at ha
      · rename_i size z hs hz
        split at ha
        · simp at ha
        · rename_i hc
          split at ha
          · rename_i elems hf
            obtain ⟨c, hrun, hfl, hlen, hcs⟩ := buildSlice_done (D := D) (β := β) (w := w) (Z := Z) hg ht hs hz hc hf (zipT_rep hρ parts)
            have hrun' : (execOp ρr o).run P w = .ok (.value (.slice (some ⟨w.heap.size, 0, none⟩) len len)) (w.alloc (.cells c elem (0, 0))) := by
              simp only [execOp, hop, Sem.run_bind, hrun, Result.andThen, Sem.run_pure]
            rw [hrun']
            split at ha
            · rename_i ts hmu hts
              obtain ⟨rfl, rfl⟩ := val ha
              have e := allT_eq hts
              subst e
              have hlt : ts.length = len := by simpa using hlen
              subst hlt
              exact ⟨newTree_done hg hfl, fun _ _ => rfl, Nat.le_refl _⟩
            · obtain ⟨rfl, rfl⟩ := val ha
              subst hlen
              exact ⟨newSlice_done (.refl D β w) hg hfl (hn0 (by simp)) (Nat.le_refl _) (fun _ => rfl) (by omega) (fun o x ho => by simp at ho), fun o ho => append_new_get h _ _ o ho, by simp⟩
          · simp at ha
      · simp at ha
    · simp at ha
  | insert t m k x =>
    simp only [aOp, hop] at ha
    have htch : (touch0 pol f ρ o).getD [] = objsOf (ρ m) := by simp [touch0, hop]
    rw [htch] at hobj ⊢
    split at ha
    · rename_i h0 hs
      cases ha
      simp [resVal] at hv
      obtain ⟨rfl, rfl⟩ := hv
      have := aMapSet_done (P := P) hg hs (hρ m) (hρ k) (hρ x) hobj
      simp only [execOp, hop]
      exact this
    · simp at ha
  | load t a =>
    simp only [aOp, hop] at ha
    obtain ⟨hb, rfl⟩ := flag ha
    have htch : (touch0 pol f ρ o).getD [] = objsOf (ρ a) := by simp [touch0, hop]
    rw [htch] at hobj ⊢
    exact Good.ofEx hg (by simp only [execOp, hop]) (aLoad_run hb (hρ a) hobj) hobj
  | store t a x =>
    simp only [aOp, hop] at ha
    have htch : (touch0 pol f ρ o).getD [] = objsOf (ρ a) := by simp [touch0, hop]
    rw [htch] at hobj ⊢
    split at ha
    · rename_i h0 hs
      cases ha
      simp [resVal] at hv
      obtain ⟨rfl, rfl⟩ := hv
      have := store_done (P := P) hg hs (hρ a) (hρ x) hobj
      simp only [execOp, hop]
      exact ⟨this.1, this.2.1, by omega⟩
    · simp at ha
  | nilCheck x =>
    simp only [aOp, hop] at ha
    have hrx := hρ x
    split at ha
    · rename_i cs hx
      obtain ⟨rfl, rfl⟩ := val ha
      rw [hx] at hrx
      have hrt := hrx.toT
      generalize hvx : ρr x = vx at hrx hrt
      cases hrt with
      | ip b off cs hD c hc hr => exact Good.ofPure hg (by simp [execOp, hop, hvx]) hrx hobj
    · rename_i g a b hx
      obtain ⟨rfl, rfl⟩ := val ha
      rw [hx] at hrx
      have hrt := hrx.toT
      generalize hvx : ρr x = vx at hrx hrt
      cases hrt with
      | fn => exact Good.ofPure hg (by simp [execOp, hop, hvx]) hrx hobj
    · rename_i o' e i k hx
      obtain ⟨rfl, rfl⟩ := val ha
      rw [hx] at hrx
      generalize hvx : ρr x = vx at hrx
      cases hrx with
      | ref _ _ _ _ b k' hb => exact Good.ofPure hg (by simp [execOp, hop, hvx]) (.ref _ _ _ _ b k' hb) hobj
    · rename_i g a b hx
      obtain ⟨rfl, rfl⟩ := val ha
      rw [hx] at hrx
      generalize hvx : ρr x = vx at hrx
      cases hrx with
      | fn _ a' b' _ _ h1 h2 h3 h4 => exact Good.ofPure hg (by simp [execOp, hop, hvx]) (.fn _ a' b' _ _ h1 h2 h3 h4) hobj
    · rename_i o' hx
      obtain ⟨rfl, rfl⟩ := val ha
      rw [hx] at hrx
      generalize hvx : ρr x = vx at hrx
      cases hrx with
      | yl _ b k' hb => exact Good.ofPure hg (by simp [execOp, hop, hvx]) (.yl _ b k' hb) hobj
    · simp at ha
  | binOp op t x y yt =>
    simp only [aOp, hop] at ha
    obtain ⟨hb, rfl⟩ := flag ha
    exact Good.ofEx hg (by simp only [execOp, hop]) (aBin_run hb (hρ x) (hρ y)) hobj
  | unOp op t x =>
    simp only [aOp, hop] at ha
    split at ha
    · rename_i a hx
      have hrx := hρ x
      rw [hx] at hrx
      have e := hrx.toT.sc_eq.1
      split at ha
      · rename_i r0 hr0
        split at ha
        · rename_i hok
          obtain ⟨rfl, rfl⟩ := val ha
          exact Good.ofEx hg (by simp only [execOp, hop]; rw [e]) ⟨r0, pureRun_run hr0 w, .t _ _ (okVal_rep hok)⟩ hobj
        · simp at ha
      · simp at ha
    · simp at ha
  | convert s t x =>
    simp only [aOp, hop] at ha
    split at ha
    · rename_i a hx
      have hrx := hρ x
      rw [hx] at hrx
      have e := hrx.toT.sc_eq.1
      split at ha
      · rename_i r0 hr0
        split at ha
        · rename_i hok
          obtain ⟨rfl, rfl⟩ := val ha
          exact Good.ofEx hg (by simp only [execOp, hop]; rw [e]) ⟨r0, pureRun_run hr0 w, .t _ _ (okVal_rep hok)⟩ hobj
        · simp at ha
      · simp at ha
    · simp at ha
  | makeFunc fn first captured =>
    simp only [aOp, hop] at ha
    have hrun : (execOp ρr o).run P w = .ok (.value (.func fn (first.map ρr) (captured.map ρr))) w := by simp [execOp, hop, Instr.makeFunc]
    split at ha
    · rename_i a b ha1 hb1
      obtain ⟨rfl, rfl⟩ := val ha
      have e1 := allT_eq ha1
      have e2 := allT_eq hb1
      refine Good.ofPure hg hrun (.t _ _ (.fn fn _ _ a b ?_ ?_ (fun i v t hv ht => ?_) (fun i v t hv ht => ?_))) hobj
      · have := congrArg List.length e1; simpa using this
      · have := congrArg List.length e2; simpa using this
      · exact (repL_map hρ first i v (.t t) hv (by rw [e1]; simp [ht])).toT
      · exact (repL_map hρ captured i v (.t t) hv (by rw [e2]; simp [ht])).toT
    · obtain ⟨rfl, rfl⟩ := val ha
      exact Good.ofPure hg hrun (.fn fn _ _ _ _ (by simp) (by simp) (fun i v t hv ht => repL_map hρ first i v t hv ht) (fun i v t hv ht => repL_map hρ captured i v t hv ht)) hobj
  | makeMap t res =>
    cases res with
    | some _ => simp [aOp, hop] at ha
    | none =>
      simp only [aOp, hop] at ha
      obtain ⟨rfl, rfl⟩ := val ha
      have htch : (touch0 pol f ρ o).getD [] = [] := by simp [touch0, hop]
      rw [htch]
      have hrun : (execOp ρr o).run P w = .ok (.value (.map (some w.heap.size))) (w.alloc (.map #[] 0)) := by
        simp only [execOp, hop, Instr.makeMap, newObj]; rfl
      rw [hrun]
      have f1 : Frm (stepS [] h (h ++ [.map []])) D β w D β (w.alloc (.map #[] 0)) := frm_alloc hg _
      have f2 : Frm (stepS [] h (h ++ [.map []])) D β (w.alloc (.map #[] 0)) D (bAdd β h.length 0 w.heap.size 0) (w.alloc (.map #[] 0)) := frm_bAdd (.inr ⟨Nat.le_refl _, by simp⟩) (hn0 (by simp) 0)
      have g1 : GInv Z D β (w.alloc (.map #[] 0)) := hg.alloc _ (by simp)
      have g2 := g1.bAdd (o := h.length) (e := 0) (b := w.heap.size) (k := 0) hg.size0 (by simp) (fun o' e' k' hb => by have := (hg.blt _ _ _ _ hb).2; omega) (fun ds hx => by rw [heap_alloc_new] at hx; cases hx)
      refine ⟨⟨_, _, D, _, rfl, .mp _ _ 0 (bAdd_same β h.length 0 w.heap.size 0), f1.trans f2, g2, fun o' y ho' hy => ?_, dom_bAdd (by simp)⟩, fun o ho => append_new_get h _ _ o ho, by simp⟩
      rcases ho' with ho' | ⟨h1, h2⟩
      · simp at ho'
      · have e : o' = h.length := by simp at h2; omega
        subst e
        rw [get_append_new] at hy
        cases hy
        intro e b k hb
        rcases bAdd_cases hb with ⟨_, rfl, hy⟩ | ⟨hb, _⟩
        · cases hy
          exact ⟨rfl, fun hD => by have := hg.dlt _ hD; omega, #[], 0, heap_alloc_new _, rfl, by simp⟩
        · rw [hn0 (by simp)] at hb; cases hb
  | makeSlice t l c =>
    simp only [aOp, hop] at ha
    have htch : (touch0 pol f ρ o).getD [] = [] := by simp [touch0, hop]
    rw [htch]
    split at ha
    · rename_i elem ht
      split at ha
      · rename_i size bytes z n m hs hb hz hl hc
        split at ha
        · rename_i hcond
          obtain ⟨rfl, rfl⟩ := val ha
          obtain ⟨cc, hrun, hfl, hcs⟩ := makeSlice_done (Z := Z) hg ht hs hb hz hl hc (hρ l) (hρ c) hcond
          have hrun' : (execOp ρr o).run P w = .ok (.value (.slice (some ⟨w.heap.size, 0, none⟩) n m)) (w.alloc (.cells cc elem (0, 0))) := by
            simp only [execOp, hop, Sem.run_bind, hrun, Result.andThen, Sem.run_pure]
          rw [hrun']
          have hd := newSlice_done (Z := Z) (h := h) (ty := elem) (cap := m) (clip := decide (n = m)) (tch := []) (.refl D β w) hg hfl (hn0 (by simp)) (by simpa using hcond.2.2.2.1) (by simp; omega) (by rw [hcs]; exact Nat.le_refl _) (fun o x ho => by simp at ho)
          simp only [List.length_replicate] at hd
          exact ⟨hd, fun o ho => append_new_get h _ _ o ho, by simp⟩
        · simp at ha
      · simp at ha
    · simp at ha
  | slice t x lo hi mx =>
    simp only [aOp, hop] at ha
    obtain ⟨hb, rfl⟩ := flag ha
    exact Good.ofEx hg (by simp only [execOp, hop]) (aSlice_run hb (hρ x) (optRep_map hρ lo) (optRep_map hρ hi) (optRep_map hρ mx)) hobj
  | fieldAddr s x fi =>
    simp only [aOp, hop] at ha
    obtain ⟨hb, rfl⟩ := flag ha
    exact Good.ofEx hg (by simp only [execOp, hop]) (aFieldAddr_run hb (hρ x)) hobj
  | field s x fi =>
    simp only [aOp, hop] at ha
    split at ha
    · rename_i t off hf hag
      obtain ⟨hb, rfl⟩ := flag ha
      exact Good.ofEx hg (by simp only [execOp, hop]) (aFieldVal_run hf hag hb (hρ x)) hobj
    · simp at ha
  | indexAddr t x ix =>
    simp only [aOp, hop] at ha
    obtain ⟨hb, rfl⟩ := flag ha
    exact Good.ofEx hg (by simp only [execOp, hop]) (aIndexAddr_run hb (hρ x) (hρ ix)) hobj
  | index t x ix =>
    simp only [aOp, hop] at ha
    obtain ⟨hb, rfl⟩ := flag ha
    exact Good.ofEx hg (by simp only [execOp, hop]) (aIndex_run hb (hρ x) (hρ ix)) hobj
  | lookup t x ix ok =>
    simp only [aOp, hop] at ha
    obtain ⟨hb, rfl⟩ := flag ha
    have htch : (touch0 pol f ρ o).getD [] = objsOf (ρ x) := by simp [touch0, hop]
    rw [htch] at hobj ⊢
    exact Good.ofEx hg (by simp only [execOp, hop]) (aLookup_run hb (hρ x) (hρ ix) hobj) hobj
  | mapUpdate t m k x =>
    simp only [aOp, hop] at ha
    have htch : (touch0 pol f ρ o).getD [] = objsOf (ρ m) := by simp [touch0, hop]
    rw [htch] at hobj ⊢
    split at ha
    · rename_i h0 hs
      cases ha
      simp [resVal] at hv
      obtain ⟨rfl, rfl⟩ := hv
      have := aMapSet_done (P := P) hg hs (hρ m) (hρ k) (hρ x) hobj
      simp only [execOp, hop]
      exact this
    · simp at ha
  | extract x i =>
    simp only [aOp, hop] at ha
    have hrx := hρ x
    split at ha
    · rename_i vs hx
      split at ha
      · rename_i y hy
        obtain ⟨rfl, rfl⟩ := val ha
        rw [hx] at hrx
        have hrt := hrx.toT
        generalize hvx : ρr x = vx at hrx hrt
        cases hrt with
        | tup cs _ hl hr =>
          have hi : i < cs.size := by rw [hl]; exact (List.getElem?_eq_some_iff.1 hy).1
          have hci : cs[i]? = some cs[i] := by simp [hi]
          exact Good.ofPure hg (by simp [execOp, hop, hvx, Instr.extract, hci, Result.andThen]) (.t _ _ (hr i _ y hci hy)) hobj
      · simp at ha
    · rename_i vs hx
      obtain ⟨hb, rfl⟩ := flag ha
      rw [hx] at hrx
      generalize hvx : ρr x = vx at hrx
      cases hrx with
      | tup cs _ hl hr =>
        have hi : i < cs.size := by rw [hl]; exact (List.getElem?_eq_some_iff.1 hb).1
        have hci : cs[i]? = some cs[i] := by simp [hi]
        exact Good.ofPure hg (by simp [execOp, hop, hvx, Instr.extract, hci, Result.andThen]) (hr i _ v hci hb) hobj
    · simp at ha
  | call c =>
    cases hc : c.callee with
    | builtin b =>
      simp only [aOp, hop, hc] at ha
      exact builtin_good hop hc ha hv hg hρ hn hobj
    | value g =>
      simp only [aOp, hop, hc] at ha
      exfalso
      unfold aCallee callOf at ha
      split at ha
      · split at ha
        · cases ha; simp [resVal] at hv
        · simp at ha
      · split at ha
        · cases ha; simp [resVal] at hv
        · simp at ha
      · cases ha; simp [resVal] at hv
      · simp at ha
    | invoke a b => simp [aOp, hop, hc] at ha
  | ready _ => simp [aOp, hop] at ha
  | waits _ => simp [aOp, hop] at ha
  | sliceToArrayPointer _ _ => simp [aOp, hop] at ha
  | makeInterface _ _ => simp [aOp, hop] at ha
  | makeChan _ _ => simp [aOp, hop] at ha
  | mapEntry _ _ _ => simp [aOp, hop] at ha
  | entryStore _ _ _ _ => simp [aOp, hop] at ha
  | range _ _ => simp [aOp, hop] at ha
  | next _ _ => simp [aOp, hop] at ha
  | entry _ => simp [aOp, hop] at ha
  | typeAssert _ _ _ _ => simp [aOp, hop] at ha
  | go _ => simp [aOp, hop] at ha
  | defer _ => simp [aOp, hop] at ha
  | panic _ => simp [aOp, hop] at ha
  | send _ _ => simp [aOp, hop] at ha
  | recv _ _ _ => simp [aOp, hop] at ha
  | select _ _ => simp [aOp, hop] at ha

end Go.Abs
