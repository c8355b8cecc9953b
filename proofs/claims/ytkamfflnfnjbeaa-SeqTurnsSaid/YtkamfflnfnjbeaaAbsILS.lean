/- Code worked out ahead comes to what the evaluator comes to. -/
import Derived.Test.YtkamfflnfnjbeaaAbsIL
set_option linter.unusedSimpArgs false
set_option linter.unusedVariables false
namespace Go.Abs
open Go

variable {P : Program} {pol : Pol} {f : FuncId} {e : FEnv} {h : Heap}

/-- Operands as the state has them. -/
def rhoF (pol : Pol) (e : FEnv) : Operand → AV := fun x => (cSrc pol x).get e

theorem srcs_map (l : List Operand) : srcs e (l.map (cSrc pol)) = l.map (rhoF pol e) := by
  induction l with
  | nil => rfl
  | cons x l ih => simp only [List.map_cons, srcs, ih]; rfl

theorem optSrc_map (x : Option Operand) : optSrc e (x.map (cSrc pol)) = x.map (rhoF pol e) := by cases x <;> rfl

theorem parts2_zip (l : List (Nat × Operand)) : parts2 e (cParts pol l) = zipT (rhoF pol e) l := by
  induction l with
  | nil => rfl
  | cons p l ih => obtain ⟨i, x⟩ := p; simp only [cParts, parts2, zipT, ih]; rfl

theorem vOf_eq (x : Option AV) : vOf h x = (match x with | some v => some (Res.val v h) | none => none) := by cases x <;> rfl
theorem hOf_eq (x : Option Heap) : hOf x = (match x with | some h' => some (Res.skip h') | none => none) := by cases x <;> rfl
theorem vhOf_eq (x : Option (AV × Heap)) : vhOf x = (match x with | some (v, h') => some (Res.val v h') | none => none) := by rcases x with _ | ⟨_, _⟩ <;> rfl

theorem fill_eq {ps : List (Nat × Nat)} : ∀ (l : List (Nat × Operand)) {l' : List (Nat × Nat × Src)} {cells : List AV}, cPlaces pol ps l = some l' → fill (fun i => ps[i]?) cells (zipT (rhoF pol e) l) = fillR cells (parts3 e l') := by
  intro l
  induction l with
  | nil => intro l' cells h; simp [cPlaces] at h; subst h; rfl
  | cons p l ih =>
    obtain ⟨i, x⟩ := p
    intro l' cells h
    simp only [cPlaces] at h
    split at h
    · rename_i off n l2 h1 h2
      simp at h
      subst h
      simp only [zipT, fill, parts3, fillR, h1]
      rw [show rhoF pol e x = (cSrc pol x).get e from rfl]
      split
      · exact ih h2
      · rfl
    · simp at h

theorem fillA_eq {size : Nat} : ∀ (l : List (Nat × Operand)) {cells : List AV}, fill (fun i => some (i * size, size)) cells (zipT (rhoF pol e) l) = fillR cells (parts3 e (cPlacesA pol size l)) := by
  intro l
  induction l with
  | nil => intro cells; rfl
  | cons p l ih =>
    obtain ⟨i, x⟩ := p
    intro cells
    simp only [cPlacesA, zipT, fill, parts3, fillR]
    rw [show rhoF pol e x = (cSrc pol x).get e from rfl]
    split
    · exact ih
    · rfl

theorem cells_t (z : T) : (AV.t z).cells = z.cells.map .t := by cases z <;> rfl

theorem takeVar_eq {t : TypeId} {b : Bool} {n : Nat} (h1 : aggB P t = some b) (h2 : szOf P t = some n) (cs : List AV) : takeVar P t cs = takeR b n cs := by
  cases b <;> simp [takeVar, takeR, h1, h2]

theorem takeVarT_eq {t : TypeId} {b : Bool} {n : Nat} (h1 : aggB P t = some b) (h2 : szOf P t = some n) (cs : List T) : takeVarT P t cs = takeRT b n cs := by
  cases b <;> simp [takeVarT, takeRT, h1, h2]

theorem aLoad_eq {t : TypeId} {b : Bool} {n : Nat} (h1 : aggB P t = some b) (h2 : szOf P t = some n) (a : AV) : aLoad P t a h = iLoad b n a h := by
  cases a with
  | t x => cases x with
    | ip cs => simp only [aLoad, iLoad, takeVarT_eq h1 h2]; rfl
    | _ => rfl
  | ref o e i off => simp only [aLoad, iLoad, takeVar_eq h1 h2]; rfl
  | _ => rfl

theorem aStore_eq {t : TypeId} {n : Nat} (h2 : szOf P t = some n) (a v : AV) : aStore P t a v h = iStore n a v h := by
  unfold aStore iStore
  rw [h2]
  cases a <;> rfl

theorem pureRun_bind_pure {α : Type} {m : Sem Unit} (hm : m = pure ()) (k : Sem α) : (do m; k) = k := by subst hm; rfl

theorem aBin_ok {t : TypeId} {op : BinOp} {bl : Bool} {ox oy : Operand} {x y v : AV} (hb : bl = true → typ P t = some .bool) (hi : iBin op bl x y = some v) : aBin P op t ox oy x y = some v := by
  unfold iBin at hi
  split at hi
  · rename_i k a k' b
    have hg : eqGuard op t ox oy (.int k a) (.int k' b) = pure () := by
      unfold eqGuard
      split <;> rfl
    simp only [aBin]
    rw [pureRun_bind_pure hg]
    cases op with
    | shl =>
      simp only at hi
      split at hi
      · simp at hi
      · rename_i hlt
        cases hi
        simp [binOp, Op.shift, hlt, pureRun, pure, okVal, ofVal]
    | shr =>
      simp only at hi
      split at hi
      · simp at hi
      · rename_i hlt
        cases hi
        simp [binOp, Op.shift, hlt, pureRun, pure, okVal, ofVal]
    | quo =>
      simp only at hi
      split at hi
      · rename_i hk
        subst hk
        split at hi
        · simp at hi
        · rename_i hz
          cases hi
          simp [binOp, Op.intDiv, hz, pureRun, pure, okVal, ofVal]
      · simp at hi
    | rem =>
      simp only at hi
      split at hi
      · rename_i hk
        subst hk
        split at hi
        · simp at hi
        · rename_i hz
          cases hi
          simp [binOp, Op.intDiv, hz, pureRun, pure, okVal, ofVal]
      · simp at hi
    | _ =>
      simp only at hi
      split at hi
      · rename_i hk
        subst hk
        cases hi
        simp [binOp, Op.intArith, Op.intBits, Op.intCmp, pureRun, pure, okVal, ofVal, bo]
        all_goals (try (first | rfl | (apply Bool.eq_iff_iff.2; simp)))
      · simp at hi
  · rename_i a b
    split at hi
    · rename_i hbl
      have ht := hb hbl
      have hg : eqGuard op t ox oy (.bool a) (.bool b) = pure () := by
        unfold eqGuard
        split <;> rfl
      simp only [aBin]
      rw [pureRun_bind_pure hg]
      have hu : P.underlying t = some .bool := ht
      have he : pureRun P (Op.equal t (.bool a) (.bool b)) = some (a == b) := by
        have h2 : Op.equal t (.bool a) (.bool b) = Op.equalIn (9999 + 1) t (.bool a) (.bool b) := rfl
        rw [h2, Op.equalIn]
        simp [underlying, program, hu, pureRun, pure, bind, Sem.bind]
      have hbnd : ∀ {α β : Type} (m : Sem α) (k : α → β) (r : α), pureRun P m = some r → pureRun P (do pure (k (← m))) = some (k r) := by
        intro α β m k r hm
        have key : ∀ m : Sem α, pureRun P m = some r → pureRun P (Sem.bind m fun a => Sem.pure (k a)) = some (k r) := by
          intro m
          induction m with
          | pure a => intro hm; simp [pureRun] at hm; subst hm; rfl
          | program g ih => intro hm; simp only [pureRun] at hm; exact ih P hm
          | _ => intro hm; simp [pureRun] at hm
        exact key m hm
      split at hi
      · cases hi
        have h3 : binOp .eql t (.bool a) (.bool b) = (do pure (.bool (← Op.equal t (.bool a) (.bool b)))) := rfl
        rw [h3, hbnd _ _ _ he]
        rfl
      · cases hi
        have h3 : binOp .neq t (.bool a) (.bool b) = (do pure (.bool (!(← Op.equal t (.bool a) (.bool b))))) := rfl
        rw [h3, hbnd _ (fun x => Value.bool !x) _ he]
        rfl
      · simp at hi
    · simp at hi
  · rename_i a b
    have hg : eqGuard op t ox oy (.string a) (.string b) = pure () := by
      unfold eqGuard
      split <;> rfl
    simp only [aBin]
    rw [pureRun_bind_pure hg]
    split at hi
    · cases hi
      simp [binOp, Op.stringOp, pureRun, pure, okVal, ofVal, bo]
    · cases hi
      simp [binOp, Op.stringOp, pureRun, pure, okVal, ofVal, bo]
    · simp at hi
  · simp at hi

theorem aSlice_eq {t elem : TypeId} {size : Nat} (h1 : typ P t = some (.slice elem)) (h2 : szOf P elem = some size) (x : AV) (lo hi mx : Option AV) : aSlice P t x lo hi mx = iSlice size x lo hi mx := by
  cases x with
  | t x => cases x with
    | sl clip k xs => simp only [aSlice, iSlice, h1, h2]; cases optNat 0 lo <;> cases optNat xs.length hi <;> rfl
    | sc v => cases v with
      | slice a len cap => cases a with
        | none => cases len with
          | zero => cases cap with
            | zero => simp only [aSlice, iSlice, h1, h2]; rcases optNat 0 lo with _ | ⟨_ | _⟩ <;> rcases optNat 0 hi with _ | ⟨_ | _⟩ <;> rcases optNat 0 mx with _ | ⟨_ | _⟩ <;> rfl
            | succ n => simp [aSlice, iSlice, h1]
          | succ n => simp [aSlice, iSlice, h1]
        | some a => simp [aSlice, iSlice, h1]
      | _ => simp [aSlice, iSlice, h1]
    | _ => simp [aSlice, iSlice, h1]
  | ms o e i len k clip => simp only [aSlice, iSlice, h1, h2]; cases optNat 0 lo <;> cases optNat len hi <;> rfl
  | _ => simp [aSlice, iSlice, h1]

theorem aAppend_eq {t elem : TypeId} {size bytes : Nat} (h1 : typ P t = some (.slice elem)) (h2 : szOf P elem = some size) (h3 : byOf P elem = some bytes) (h4 : ¬ (size = 0 ∨ bytes = 0 ∨ zeroCells P elem ≠ some size)) (s x : AV) :
    aAppend P t s x h = iAppend size bytes s x h := by
  unfold aAppend iAppend
  simp only [h1, h2, h3]
  cases elemsOf h size x with
  | none => rfl
  | some xs =>
    simp only [h4, if_false]
    rfl

theorem conv_ok {s t : TypeId} {ks k : IntKind} (h1 : typ P s = some (.int ks)) (h2 : typ P t = some (.int k)) (kk : IntKind) (n : Int) : pureRun P (convert s t (.int kk n)) = some (.int k (k.wrap n)) := by
  have h1 : P.underlying s = some (.int ks) := h1
  have h2 : P.underlying t = some (.int k) := h2
  simp [convert, underlying, program, h1, h2, pureRun, pure, bind, Sem.bind, Conv.intToInt]

theorem iBuild_str {t : TypeId} {z : T} {fields : Array Field} {places : List (Nat × Nat)} {parts : List (Nat × Operand)} {l : List (Nat × Nat × Src)} (h1 : zeroOf P t = some z) (h2 : typ P t = some (.struct fields)) (h3 : placesOf P fields.toList = some places)
    (h4 : cPlaces pol places parts = some l) : aBuild P t (zipT (rhoF pol e) parts) = iBuild z.cells (parts3 e l) := by
  simp only [aBuild, h1, h2, h3, iBuild]
  rw [fill_eq parts h4, cells_t]
  rfl

theorem iBuild_arr {t elem : TypeId} {z : T} {n size : Nat} {parts : List (Nat × Operand)} (h1 : zeroOf P t = some z) (h2 : typ P t = some (.array n elem)) (h3 : szOf P elem = some size) :
    aBuild P t (zipT (rhoF pol e) parts) = iBuild z.cells (parts3 e (cPlacesA pol size parts)) := by
  simp only [aBuild, h1, h2, h3, iBuild]
  rw [fillA_eq parts, cells_t]
  rfl

/-- One operation, worked out ahead. -/
theorem step_ok {o : Oper} {r : Res} (hs : iStep P pol f e h (cOp P pol f o) = some r) : aOp P pol f (rhoF pol e) h o = some r := by
  have raw : iStep P pol f e h (.raw o) = some r → aOp P pol f (rhoF pol e) h o = some r := fun h => h
  have rho : ∀ x, rhoF pol e x = (cSrc pol x).get e := fun _ => rfl
  cases hop : o.op with
  | move x => simp only [cOp, hop, iStep] at hs; simp only [aOp, hop]; exact hs
  | assign x =>
    simp only [cOp, hop] at hs
    split at hs
    · rename_i hg
      split at hs
      · rename_i elem ht
        split at hs
        · rename_i size hsz
          simp only [iStep, iGrow] at hs
          simp only [aOp, hop, hg, if_true, ht, hsz]
          rw [rho]
          split at hs
          · rename_i hx
            rw [hx]
            simp only [hsz]
            exact hs
          · rename_i y hy
            split
            · rename_i hx _; exact absurd hx hy
            · exact hs
        · exact raw hs
      · exact raw hs
    · rename_i hg
      simp only [aOp, hop, hg]
      exact hs
  | pick c a b =>
    simp only [cOp, hop, iStep, iPick] at hs
    simp only [aOp, hop, rho]
    split at hs
    · rename_i c hc
      simp only [hc]
      split at hs
      · rename_i x y hx hy
        simp only [hx, hy]
        exact hs
      · rename_i hn
        split
        · rename_i x y hx hy; exact absurd hy (hn x y hx)
        · exact hs
    · simp [vOf] at hs
  | alloc t =>
    simp only [cOp, hop] at hs
    split at hs
    · rename_i hg
      split at hs
      · rename_i elem hz ht
        split at hs
        · rename_i size hsz
          simp only [aOp, hop, hg, if_true, hz, ht, hsz]
          exact hs
        · exact raw hs
      · exact raw hs
    · rename_i hg
      split at hs
      · rename_i z hz
        split at hs
        · rename_i hst
          simp only [aOp, hop, hg, hz, hst, if_true]
          exact hs
        · exact raw hs
      · exact raw hs
  | box t x =>
    simp only [cOp, hop] at hs
    split at hs
    · exact raw hs
    · rename_i hg
      simp only [iStep, iBox] at hs
      simp only [aOp, hop, hg, rho]
      exact hs
  | build t parts =>
    simp only [cOp, hop] at hs
    split at hs
    · rename_i z fields hz ht
      split at hs
      · rename_i places hp
        split at hs
        · rename_i l hl
          simp only [iStep, vOf_eq] at hs
          simp only [aOp, hop]
          rw [iBuild_str hz ht hp hl]
          exact hs
        · exact raw hs
      · exact raw hs
    · rename_i z n elem hz ht
      split at hs
      · rename_i size hsz
        simp only [iStep, vOf_eq] at hs
        simp only [aOp, hop]
        rw [iBuild_arr hz ht hsz]
        exact hs
      · exact raw hs
    · exact raw hs
  | buildSlice t len parts =>
    simp only [cOp, hop] at hs
    split at hs
    · rename_i elem ht
      split at hs
      · rename_i size z hsz hz
        split at hs
        · exact raw hs
        · rename_i hc
          simp only [iStep, iBuildS] at hs
          simp only [aOp, hop, ht, hsz, hz, hc, if_false]
          rw [← parts2_zip]
          exact hs
      · exact raw hs
    · exact raw hs
  | load t a =>
    simp only [cOp, hop] at hs
    split at hs
    · rename_i b n hb hn
      simp only [iStep, vOf_eq] at hs
      simp only [aOp, hop, rho]
      rw [aLoad_eq hb hn]
      exact hs
    · exact raw hs
  | store t a x =>
    simp only [cOp, hop] at hs
    split at hs
    · rename_i n hn
      simp only [iStep, hOf_eq] at hs
      simp only [aOp, hop, rho]
      rw [aStore_eq hn]
      exact hs
    · exact raw hs
  | nilCheck x =>
    simp only [cOp, hop, iStep, vOf_eq] at hs
    simp only [aOp, hop, rho]
    unfold iNil at hs
    split at hs
    · rename_i v hv
      split at hv <;> rename_i hx <;> try (simp at hv; done)
      all_goals (rw [hx]; cases hv; exact hs)
    · simp at hs
  | binOp op t x y yt =>
    have fin : ∀ bl, (bl = true → typ P t = some .bool) → iStep P pol f e h (.bin op bl (cSrc pol x) (cSrc pol y)) = some r → aOp P pol f (rhoF pol e) h o = some r := by
      intro bl hb hs
      simp only [iStep, vOf_eq] at hs
      split at hs
      · rename_i v hv
        cases hs
        simp only [aOp, hop, rho]
        rw [aBin_ok hb hv]
      · simp at hs
    simp only [cOp, hop] at hs
    split at hs
    · rename_i ht; exact fin true (fun _ => ht) hs
    · exact fin false (by simp) hs
    · exact fin false (by simp) hs
    · exact raw hs
  | unOp op t x =>
    simp only [cOp, hop] at hs
    split at hs
    · simp only [iStep, vOf_eq] at hs
      unfold iNot at hs
      simp only [aOp, hop, rho]
      split at hs
      · rename_i v hv
        split at hv
        · rename_i b hx
          cases hv
          cases hs
          rw [hx]
          simp [Op.unary, pureRun, pure, okVal, ofVal, bo]
        · simp at hv
      · simp at hs
    · simp only [iStep, vOf_eq] at hs
      unfold iNeg at hs
      simp only [aOp, hop, rho]
      split at hs
      · rename_i v hv
        split at hv
        · rename_i k n hx
          cases hv
          cases hs
          rw [hx]
          simp [Op.unary, Op.intArith, pureRun, pure, okVal, ofVal]
        · simp at hv
      · simp at hs
    · exact raw hs
  | convert s t x =>
    simp only [cOp, hop] at hs
    split at hs
    · rename_i ks k h1 h2
      simp only [iStep, vOf_eq] at hs
      unfold iConv at hs
      simp only [aOp, hop, rho]
      split at hs
      · rename_i v hv
        split at hv
        · rename_i kk n hx
          cases hv
          cases hs
          rw [hx]
          simp only [conv_ok h1 h2]
          rfl
        · simp at hv
      · simp at hs
    · exact raw hs
  | makeFunc fn first captured =>
    simp only [cOp, hop] at hs
    split at hs
    · rename_i g
      simp only [iStep, iFn, srcs_map] at hs
      simp only [aOp, hop]
      split at hs
      · rename_i a b ha hb
        simp only [ha, hb]
        exact hs
      · rename_i hn
        split
        · rename_i a b ha hb; exact absurd hb (hn a b ha)
        · exact hs
    · exact raw hs
  | slice t x lo hi mx =>
    simp only [cOp, hop] at hs
    split at hs
    · rename_i elem ht
      split at hs
      · rename_i size hsz
        simp only [iStep, vOf_eq, optSrc_map] at hs
        simp only [aOp, hop]
        rw [aSlice_eq ht hsz, rho]
        exact hs
      · exact raw hs
    · exact raw hs
  | fieldAddr s x fi =>
    simp only [cOp, hop] at hs
    split at hs
    · rename_i t off ha
      simp only [iStep, vOf_eq] at hs
      simp only [aOp, hop, rho, aFieldAddr, ha]
      exact hs
    · exact raw hs
  | field s x fi =>
    simp only [cOp, hop] at hs
    split at hs
    · rename_i t off ha
      split at hs
      · rename_i b n hb hn
        simp only [iStep, vOf_eq, iFld] at hs
        simp only [aOp, hop, rho, ha]
        cases hag : ((cSrc pol x).get e).isAgg with
        | false => simp [hag] at hs
        | true =>
          simp only [hag, if_true] at hs
          simp only [takeVar_eq hb hn]
          exact hs
      · exact raw hs
    · exact raw hs
  | indexAddr t x ix =>
    simp only [cOp, hop] at hs
    split at hs
    · rename_i elem ht
      split at hs
      · rename_i size hsz
        simp only [iStep, vOf_eq] at hs
        simp only [aOp, hop, rho, aIndexAddr, ht]
        split at hs
        · rename_i j hj
          simp only [hj]
          split at hs
          · rename_i v hv
            cases hs
            unfold iIdxS at hv
            split at hv
            · rename_i hx
              simp only [hx, hsz]
              split at hv
              · rename_i y hy
                split at hv
                · rename_i hk
                  cases hv
                  simp [hy, hk]
                · simp at hv
              · simp at hv
            · rename_i hx
              simp only [hx, hsz]
              split at hv
              · rename_i hc
                cases hv
                simp [hc]
              · simp at hv
            · simp at hv
          · simp at hs
        · simp at hs
      · exact raw hs
    · rename_i len elem ht
      split at hs
      · rename_i size hsz
        simp only [iStep, vOf_eq] at hs
        simp only [aOp, hop, rho, aIndexAddr, ht]
        split at hs
        · rename_i j hj
          simp only [hj, hsz]
          exact hs
        · simp at hs
      · exact raw hs
    · exact raw hs
  | index t x ix =>
    simp only [cOp, hop] at hs
    split at hs
    · rename_i len elem ht
      split at hs
      · rename_i size b hsz hb
        simp only [iStep, vOf_eq] at hs
        simp only [aOp, hop, rho, aIndex, ht]
        split at hs
        · rename_i j hj
          simp only [hj, hsz]
          cases hag : ((cSrc pol x).get e).isAgg with
          | false => simp [hag] at hs
          | true =>
            simp only [hag, if_true] at hs
            split at hs
            · rename_i hlt
              simp only [hlt, if_true, takeVar_eq hb hsz]
              exact hs
            · simp at hs
        · simp at hs
      · exact raw hs
    · exact raw hs
  | extract x i =>
    simp only [cOp, hop, iStep, vOf_eq, iExt] at hs
    simp only [aOp, hop, rho]
    split at hs
    · rename_i v hv
      cases hs
      split at hv
      · rename_i vs hx
        rw [hx]
        simp only
        split at hv
        · rename_i y hy
          cases hv
          rw [hy]
        · simp at hv
      · rename_i vs hx
        rw [hx]
        simp only [hv]
      · simp at hv
    · simp at hs
  | call c =>
    simp only [cOp, hop] at hs
    split at hs
    · rename_i b hb
      simp only [aOp, hop, hb]
      split at hs
      · rename_i x t ha ht
        split at hs
        · rename_i el hty
          simp only [iStep, vOf_eq, iLen] at hs
          simp only [aBuiltin, ha, ht, hty, List.map_cons, List.map_nil, rho]
          split at hs
          · rename_i v hv
            cases hs
            split at hv
            · rename_i n hn
              cases hv
              simp only [hn]
              rfl
            · simp at hv
          · simp at hs
        · have := raw hs; simpa only [aOp, hop, hb] using this
      · rename_i s x t u ha ht
        split at hs
        · rename_i elem el2 h1 h2
          split at hs
          · rename_i size bytes h3 h4
            split at hs
            · have := raw hs; simpa only [aOp, hop, hb] using this
            · rename_i hc
              simp only [iStep, vhOf_eq] at hs
              simp only [aBuiltin, ha, ht, h2, List.map_cons, List.map_nil, rho]
              rw [aAppend_eq h1 h3 h4 hc]
              exact hs
          · have := raw hs; simpa only [aOp, hop, hb] using this
        · have := raw hs; simpa only [aOp, hop, hb] using this
      · rename_i x y ha
        simp only [iStep, vOf_eq] at hs
        split at hs
        · rename_i v hv
          cases hs
          unfold iMnx at hv
          simp only [ha, List.map_cons, List.map_nil, rho]
          split at hv
          · rename_i k a k' b hx hy
            cases hv
            rw [hx, hy]
            simp [aBuiltin]
          · simp at hv
        · simp at hs
      · rename_i x y ha
        simp only [iStep, vOf_eq] at hs
        split at hs
        · rename_i v hv
          cases hs
          unfold iMnx at hv
          simp only [ha, List.map_cons, List.map_nil, rho]
          split at hv
          · rename_i k a k' b hx hy
            cases hv
            rw [hx, hy]
            simp [aBuiltin]
          · simp at hv
        · simp at hs
      · have := raw hs; simpa only [aOp, hop, hb] using this
    · rename_i g hg
      simp only [iStep, srcs_map] at hs
      simp only [aOp, hop, hg, rho]
      exact hs
    · have := raw hs; simpa only [aOp, hop] using this
  | _ => simp only [cOp, hop] at hs; exact raw hs

end Go.Abs
