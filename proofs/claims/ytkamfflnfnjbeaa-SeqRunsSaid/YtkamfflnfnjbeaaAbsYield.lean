/- Loops over functions: entering the function, and its calls back into the loop's body. -/
import Derived.Test.YtkamfflnfnjbeaaAbsRaw
set_option linter.unusedSimpArgs false
set_option linter.unusedVariables false
namespace Go.Abs
open Go

variable {P : Program} {pol : Pol} {K : Oracle} {I : Inl} {f g : FuncId} {n m d l : Nat} {e : FEnv} {h : Heap} {R : Xit → FEnv → Heap → Prop} {k : AV → Heap → Prop}

theorem cells_yl {o : Nat} : (AV.yl o).cells = [.yl o] := (fun x => x) rfl
theorem isAgg_yl {o : Nat} : (AV.yl o).isAgg = false := (fun x => x) rfl
theorem sto_yl {o : Nat} : storable (.yl o) = true := (fun x => x) rfl
theorem av_yl {p : Nat → Bool} {o : Nat} : avoid p (.yl o) = !p o := by simp [avoid]
theorem ob_yl {o : Nat} : objsOf (.yl o) = [] := (fun x => x) rfl
theorem allT_yl {o : Nat} {r : List AV} : allT (.yl o :: r) = none := (fun x => x) rfl
theorem bx_yl {b : Bool} {o : Nat} : iBox b (.yl o) h = some (.val (.ref h.length 1 0 0) (h ++ [.row 1 [.yl o] 0])) := by cases b <;> rfl
theorem frz_yl {p : Nat → Bool} {o : Nat} (ho : p o = false) : frz h p (.yl o) = some (.yl o) := by
  simp only [frz, frzCell, avoid, ho, Bool.not_false, if_true]
/-- What a loop saw. -/
def lpEnv (m : Nat) (E : FEnv) : List AV := (List.range m).map E

/-- Behind the function of a loop. -/
def rfL (R : Xit → FEnv → Heap → Prop) : Option (Option Code) → Option (FEnv × Heap) → Prop
  | some none, some (e', h') => R .normal e' h'
  | some (some .ret), some (e', h') => R .ret e' h'
  | some (some (.exit id)), some (e', h') => R (.exit id) e' h'
  | _, _ => False
theorem rfL_none {e' : FEnv} {h' : Heap} : rfL R (some none) (some (e', h')) = R .normal e' h' := (fun x => x) rfl
theorem rfL_ret {e' : FEnv} {h' : Heap} : rfL R (some (some .ret)) (some (e', h')) = R .ret e' h' := (fun x => x) rfl
theorem rfL_exit {id : Nat} {e' : FEnv} {h' : Heap} : rfL R (some (some (.exit id))) (some (e', h')) = R (.exit id) e' h' := (fun x => x) rfl
def rfEnd (n0 : Nat) (e : FEnv) (R : Xit → FEnv → Heap → Prop) (_ : AV) (h2 : Heap) : Prop := rfL R (loopOf h2 n0) (shrinkF n0 e (h2.set n0 .gone))
theorem rfEnd_app {n0 : Nat} {v : AV} {h2 : Heap} : rfEnd n0 e R v h2 = rfL R (loopOf h2 n0) (shrinkF n0 e (h2.set n0 .gone)) := (fun x => x) rfl
def rfC (I : Inl) (f : FuncId) (m : Nat) (live : Option (List Tmp)) (params : List Tmp) (assign body : Code) (R : Xit → FEnv → Heap → Prop) (e : FEnv) (h : Heap) : Option Res → Prop
  | some (.call (.fn gf) args) => oB (I (.fn gf) args (h ++ [.loop f (lpEnv m (tidyF live e)) params assign body false none])) (rfEnd h.length e R)
  | _ => False
theorem rfC_call {live : Option (List Tmp)} {params : List Tmp} {assign body : Code} {gf : FuncId} {args : List AV} : rfC I f m live params assign body R e h (some (.call (.fn gf) args)) =
    oB (I (.fn gf) args (h ++ [.loop f (lpEnv m (tidyF live e)) params assign body false none])) (rfEnd h.length e R) := (fun x => x) rfl
theorem c_rangeF {live : Option (List Tmp)} {gs : Src} {params : List Tmp} {assign body : Code} : wc P pol K I n f (.rangeF m live gs params assign body) R e h = rfC I f m live params assign body R e h (aCallee (gs.get e) [.yl h.length]) := by
  simp only [wc, wpC, rfC]
  generalize aCallee (gs.get e) [.yl h.length] = x
  rcases x with _ | ⟨_ | _ | ⟨gf | _, args⟩⟩ <;> rfl

def lpO : Option AObj → Option (Option Code)
  | some (.loop _ _ _ _ _ false p) => some p
  | _ => none
theorem loop_eq : loopOf h l = lpO (h[l]?) := by
  unfold loopOf lpO
  rcases h[l]? with _ | ⟨_ | _ | ⟨_, _, _, _, _, b, _⟩ | _⟩ <;> rfl
theorem lpO_loop {env : List AV} {ps : List Tmp} {a b : Code} {p : Option Code} : lpO (some (.loop f env ps a b false p)) = some p := (fun x => x) rfl

/-- The start of a round: what the loop saw, the parameters over it. -/
def cutE (m : Nat) (E : FEnv) : FEnv := fun t => if t < m then E t else .dead
theorem cutE_app {E : FEnv} {t : Nat} : cutE m E t = if t < m then E t else .dead := (fun x => x) rfl
def setE (E : FEnv) : List (Tmp × AV) → FEnv
  | [] => E
  | (p, v) :: r => setE (upd E (some p) v) r
theorem setE_nil {E : FEnv} : setE E [] = E := (fun x => x) rfl
theorem setE_cons {E : FEnv} {p : Tmp} {v : AV} {r : List (Tmp × AV)} : setE E ((p, v) :: r) = setE (upd E (some p) v) r := (fun x => x) rfl

theorem agr_cut (E : FEnv) : Agr m (cutE m E) ((List.range m).map E) := by
  refine ⟨by simp, fun t => ?_⟩
  rw [List.getD_eq_getElem?_getD, List.getElem?_map, cutE_app]
  by_cases ht : t < m
  · simp [ht]
  · rw [if_neg ht, List.getElem?_eq_none (by simp; omega)]
    rfl
theorem agr_set : ∀ (ps : List (Tmp × AV)) {E : FEnv} {env : Env}, Agr m E env → (∀ p ∈ ps, p.1 < m) → Agr m (setE E ps) (setAll env ps) := by
  intro ps
  induction ps with
  | nil => intro E env ha _; exact ha
  | cons p r ih =>
    obtain ⟨t, v⟩ := p
    intro E env ha hp
    have h1 : dstOk m (some t) = true := decide_eq_true (hp (t, v) (by simp))
    exact ih (ha.put h1 v) (fun p hp' => hp p (by simp [hp']))

def bzB (k : Heap → Prop) : Option Heap → Prop
  | some h => k h
  | none => False
theorem bzB_some {q : Heap → Prop} {h : Heap} : bzB q (some h) = q h := (fun x => x) rfl
/-- Behind a round. -/
def ylB (l : Nat) (k : AV → Heap → Prop) : Xit → FEnv → Heap → Prop := fun x _ h => match x with
  | .normal => oB (idleOf h l none) k
  | .ret => oB (idleOf h l (some .ret)) k
  | .exit id => oB (idleOf h l (some (.exit id))) k
theorem ylB_normal : ylB l k .normal e h = oB (idleOf h l none) k := (fun x => x) rfl
theorem ylB_ret : ylB l k .ret e h = oB (idleOf h l (some .ret)) k := (fun x => x) rfl
theorem ylB_exit {id : Nat} : ylB l k (.exit id) e h = oB (idleOf h l (some (.exit id))) k := (fun x => x) rfl
/-- Behind a round's assignments. -/
def ylA (P : Program) (pol : Pol) (K : Oracle) (n d : Nat) (g : FuncId) (l : Nat) (cb : C) (k : AV → Heap → Prop) : Xit → FEnv → Heap → Prop := fun x e h => match x with
  | .normal => bzB (wc P pol K (inl P pol K n d) n g cb (ylB l k) e) (busyOf h l)
  | _ => False
theorem ylA_normal {cb : C} : ylA P pol K n d g l cb k .normal e h = bzB (wc P pol K (inl P pol K n d) n g cb (ylB l k) e) (busyOf h l) := (fun x => x) rfl

def bzO (h : Heap) (l : Nat) : Option AObj → Option Heap
  | some (.loop f env params assign body false none) => some (h.set l (.loop f env params assign body true none))
  | _ => none
theorem busy_eq : busyOf h l = bzO h l (h[l]?) := by
  unfold busyOf bzO
  rcases h[l]? with _ | ⟨_ | _ | ⟨_, _, _, _, _, b, p⟩ | _⟩ <;> rfl
theorem bzO_loop {env : List AV} {ps : List Tmp} {a b : Code} : bzO h l (some (.loop f env ps a b false none)) = some (h.set l (.loop f env ps a b true none)) := (fun x => x) rfl
def idO (h : Heap) (l : Nat) (j : Option Code) : Option AObj → Option (AV × Heap)
  | some (.loop f env params assign body true none) => some (.t (.sc (.bool j.isNone)), h.set l (.loop f env params assign body false j))
  | _ => none
theorem idle_eq {j : Option Code} : idleOf h l j = idO h l j (h[l]?) := by
  unfold idleOf idO
  rcases h[l]? with _ | ⟨_ | _ | ⟨_, _, _, _, _, b, p⟩ | _⟩ <;> rfl
theorem idO_none {env : List AV} {ps : List Tmp} {a b : Code} : idO h l none (some (.loop f env ps a b true none)) = some (.t (.sc (.bool true)), h.set l (.loop f env ps a b false none)) := (fun x => x) rfl
theorem idO_some {env : List AV} {ps : List Tmp} {a b c : Code} : idO h l (some c) (some (.loop f env ps a b true none)) = some (.t (.sc (.bool false)), h.set l (.loop f env ps a b false (some c))) := (fun x => x) rfl

/-- A call back: a round of the loop. -/
theorem oB_yl {E : FEnv} {params : List Tmp} {assign body : Code} {args : List AV} {ca cb : C} (ho : h[l]? = some (.loop g (lpEnv m E) params assign body false none)) (hl : args.length = params.length) (hp : (params.all fun p => decide (p < m)) = true)
    (h1 : cCode P pol g m 0 assign = ca) (h2 : cCode P pol g m 0 body = cb) (hw : wc P pol K (inl P pol K n d) n g ca (ylA P pol K n d g l cb k) (setE (cutE m E) (params.zip args)) h) : oB (inl P pol K n (d + 1) (.yl l) args h) k := by
  subst h1 h2
  have hps : ∀ p ∈ params.zip args, p.1 < m := fun p hp' => of_decide_eq_true (List.all_eq_true.1 hp p.1 (List.of_mem_zip hp').1)
  obtain ⟨x, env1, h1, e1, q1, q2, q3⟩ := wpC_ok assign (agr_set (params.zip args) (agr_cut E) hps) hw
  simp only [inl, ho, lpEnv]
  rw [if_neg (by simp [hl]), q1]
  cases x with
  | normal =>
    simp only [ylA] at q3
    cases hb : busyOf h1 l with
    | none => rw [hb] at q3; exact q3.elim
    | some h1' =>
      rw [hb] at q3
      simp only [bzB] at q3
      obtain ⟨y, env2, h2, e2, r1, r2, r3⟩ := wpC_ok body q2 q3
      simp only [hb, r1]
      cases y with
      | normal => exact r3
      | ret => exact r3
      | exit id => exact r3
  | exit id => exact q3.elim
  | ret => exact q3.elim

/-- A loop that waits names what its live variables name. -/
def avTs (p : Nat → Bool) (E : FEnv) : List Tmp → Bool
  | [] => true
  | t :: ts => avoid p (E t) && avTs p E ts
theorem avTs_nil {p : Nat → Bool} {E : FEnv} : avTs p E [] = true := (fun x => x) rfl
theorem avTs_cons {p : Nat → Bool} {E : FEnv} {t : Tmp} {ts : List Tmp} : avTs p E (t :: ts) = (avoid p (E t) && avTs p E ts) := (fun x => x) rfl
theorem avTs_mem {p : Nat → Bool} {E : FEnv} : ∀ {ts : List Tmp}, avTs p E ts = true → ∀ t ∈ ts, avoid p (E t) = true := by
  intro ts
  induction ts with
  | nil => intro _ t ht; cases ht
  | cons s ts ih =>
    intro h t ht
    rw [avTs_cons, Bool.and_eq_true] at h
    cases ht with
    | head => exact h.1
    | tail _ ht => exact ih h.2 t ht
theorem frz_loop {hp : Heap} {p : Nat → Bool} {E : FEnv} {ts : List Tmp} {ps : List Tmp} {a b : Code} {busy : Bool} {pd : Option Code} (hav : avTs p E ts = true) :
    frzObj hp p (.loop f (lpEnv m (tidyF (some ts) E)) ps a b busy pd) = some (.loop f (lpEnv m (tidyF (some ts) E)) ps a b busy pd) := by
  have key : ∀ l : List Nat, avoidAll p (l.map (tidyF (some ts) E)) = true := by
    intro l
    induction l with
    | nil => simp [avoidAll]
    | cons x l ih =>
      rw [List.map_cons, avoidAll, ih, Bool.and_true]
      show avoid p (if ts.contains x then E x else .dead) = true
      split
      · rename_i hc
        exact avTs_mem hav x (by simpa using hc)
      · simp [avoid]
  simp only [frzObj, lpEnv, key, if_true]

end Go.Abs
