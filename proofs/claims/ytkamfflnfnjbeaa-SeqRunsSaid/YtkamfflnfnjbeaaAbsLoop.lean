/- Loops by the function that one round computes: the induction over the rounds, once for all. -/
import Derived.Test.YtkamfflnfnjbeaaAbsWp
set_option linter.unusedVariables false
set_option linter.unusedSimpArgs false
namespace Go.Abs
open Go

/-- What a round comes to: go on, or leave. -/
inductive Ctl (σ ρ : Type) where
  | go (s : σ)
  | out (r : ρ)

variable {σ ρ α : Type} {n0 : Nat} {live : Option (List Tmp)} {body : (Xit → FEnv → Heap → Prop) → FEnv → Heap → Prop}

/-- What is known behind a round. -/
def ctlK (St : σ → FEnv → Heap → Prop) (Ex : ρ → Xit → FEnv → Heap → Prop) (Y : FEnv → Heap → Prop) (R : Xit → FEnv → Heap → Prop) : Ctl σ ρ → Prop
  | .go s => ∀ e h, St s e h → Y e h
  | .out r => ∀ x e h, Ex r x e h → R x e h
theorem ctlK_go {St : σ → FEnv → Heap → Prop} {Ex : ρ → Xit → FEnv → Heap → Prop} {Y : FEnv → Heap → Prop} {R : Xit → FEnv → Heap → Prop} {s : σ} : ctlK St Ex Y R (.go s) = ∀ e h, St s e h → Y e h := rfl
theorem ctlK_out {St : σ → FEnv → Heap → Prop} {Ex : ρ → Xit → FEnv → Heap → Prop} {Y : FEnv → Heap → Prop} {R : Xit → FEnv → Heap → Prop} {r : ρ} : ctlK St Ex Y R (.out r) = ∀ x e h, Ex r x e h → R x e h := rfl

def runC (step : σ → Ctl σ ρ) : Nat → σ → Option ρ
  | 0, _ => none
  | m + 1, s => match step s with
    | .go s => runC step m s
    | .out r => some r

theorem loop_run {step : σ → Ctl σ ρ} {St : σ → FEnv → Heap → Prop} {Ex : ρ → Xit → FEnv → Heap → Prop}
    (hstep : ∀ s e h Y R, St s e h → ctlK St Ex Y R (step s) → body (itK n0 Y R) (tidyF live e) h) {R : Xit → FEnv → Heap → Prop} {r : ρ} (hR : ∀ x e h, Ex r x e h → R x e h) :
    ∀ (m : Nat) (s : σ) (e : FEnv) (h : Heap), runC step m s = some r → St s e h → wpIter n0 live body R m e h := by
  intro m
  induction m with
  | zero => intro s e h hr; simp [runC] at hr
  | succ m ih =>
    intro s e h hr hs
    rw [iter_succ]
    refine hstep s e h _ R hs ?_
    simp only [runC] at hr
    cases hst : step s with
    | go s' => rw [hst] at hr; exact fun e h hs => ih s' e h hr hs
    | out r' => rw [hst] at hr; simp only [Option.some.injEq] at hr; subst hr; exact hR

/-- More rounds than enough change nothing. -/
theorem runC_more {step : σ → Ctl σ ρ} {r : ρ} : ∀ {m k : Nat} {s : σ}, runC step m s = some r → m ≤ k → runC step k s = some r := by
  intro m
  induction m with
  | zero => intro k s h; simp [runC] at h
  | succ m ih =>
    intro k s h hk
    obtain ⟨j, rfl⟩ : ∃ j, k = j + 1 := ⟨k - 1, by omega⟩
    simp only [runC] at h ⊢
    cases hst : step s with
    | go s' => rw [hst] at h; exact ih h (by omega)
    | out r' => rw [hst] at h; exact h

/-- A list, element by element, with a way out. -/
def foldC (step : Nat → α → σ → Ctl σ ρ) (fin : σ → ρ) : Nat → List α → σ → ρ
  | _, [], s => fin s
  | i, x :: l, s => match step i x s with
    | .go s => foldC step fin (i + 1) l s
    | .out r => r
theorem foldC_nil {step : Nat → α → σ → Ctl σ ρ} {fin : σ → ρ} {i : Nat} {s : σ} : foldC step fin i [] s = fin s := rfl
theorem foldC_go {step : Nat → α → σ → Ctl σ ρ} {fin : σ → ρ} {i : Nat} {x : α} {l : List α} {s s' : σ} (h : step i x s = .go s') : foldC step fin i (x :: l) s = foldC step fin (i + 1) l s' := by simp only [foldC, h]
theorem foldC_out {step : Nat → α → σ → Ctl σ ρ} {fin : σ → ρ} {i : Nat} {x : α} {l : List α} {s : σ} {r : ρ} (h : step i x s = .out r) : foldC step fin i (x :: l) s = r := by simp only [foldC, h]

/-- A loop over the elements of a list, i the index. -/
theorem loop_range (l : List α) (enc : α → T) {step : Nat → α → σ → Ctl σ ρ} {fin : σ → ρ} {St : Nat → σ → FEnv → Heap → Prop} {Ex : ρ → Xit → FEnv → Heap → Prop} (hl : l.length < 9223372036854775808)
    (hgo : ∀ i x s e h Y R, x ∈ l → i < l.length → l[i]? = some x → (l.map enc)[i]? = some (enc x) → decide ((i : Int) < (l.length : Int)) = true → IntKind.i64.wrap ((i : Int) + 1) = ((i + 1 : Nat) : Int) → St i s e h → ctlK (St (i + 1)) Ex Y R (step i x s) → body (itK n0 Y R) (tidyF live e) h)
    (hend : ∀ s e h Y R, decide ((l.length : Int) < (l.length : Int)) = false → St l.length s e h → (∀ x e h, Ex (fin s) x e h → R x e h) → body (itK n0 Y R) (tidyF live e) h)
    {R : Xit → FEnv → Heap → Prop} {s : σ} {m : Nat} {e : FEnv} {h : Heap} (hm : l.length < m) (hs : St 0 s e h) (hR : ∀ x e h, Ex (foldC step fin 0 l s) x e h → R x e h) : wpIter n0 live body R m e h := by
  have main : ∀ (rest pre : List α) (s : σ) (m : Nat) (e : FEnv) (h : Heap), l = pre ++ rest → rest.length < m → St pre.length s e h → (∀ x e h, Ex (foldC step fin pre.length rest s) x e h → R x e h) → wpIter n0 live body R m e h := by
    intro rest
    induction rest with
    | nil =>
      intro pre s m e h hp hm hs hR
      obtain ⟨k, rfl⟩ : ∃ k, m = k + 1 := ⟨m - 1, by simp at hm; omega⟩
      rw [iter_succ]
      have hpl : pre.length = l.length := by rw [hp]; simp
      rw [hpl] at hs
      exact hend s e h _ R (by simp) hs hR
    | cons x rest ih =>
      intro pre s m e h hp hm hs hR
      obtain ⟨k, rfl⟩ : ∃ k, m = k + 1 := ⟨m - 1, by simp at hm; omega⟩
      rw [iter_succ]
      have hpl : pre.length < l.length := by rw [hp]; simp
      have hx : l[pre.length]? = some x := by rw [hp]; simp
      refine hgo pre.length x s e h _ R (List.mem_of_getElem? hx) hpl hx (by simp [hx]) (by simp; exact hpl) (by rw [wrap_i64 (by omega) (by omega)]; rfl) hs ?_
      cases hst : step pre.length x s with
      | out r => rw [foldC_out hst] at hR; exact hR
      | go s' =>
        rw [foldC_go hst] at hR
        intro e' h' hs'
        refine ih (pre ++ [x]) s' k e' h' (by simp [hp]) (by simp at hm; omega) (by simpa using hs') (by simpa using hR)
  exact main l [] s m e h rfl hm hs hR

/-- A loop over the numbers below n. -/
theorem loop_upto (n : Nat) {step : Nat → σ → Ctl σ ρ} {fin : σ → ρ} {St : Nat → σ → FEnv → Heap → Prop} {Ex : ρ → Xit → FEnv → Heap → Prop} (hl : n < 9223372036854775808)
    (hgo : ∀ i s e h Y R, i < n → decide ((i : Int) < (n : Int)) = true → IntKind.i64.wrap ((i : Int) + 1) = ((i + 1 : Nat) : Int) → St i s e h → ctlK (St (i + 1)) Ex Y R (step i s) → body (itK n0 Y R) (tidyF live e) h)
    (hend : ∀ s e h Y R, decide ((n : Int) < (n : Int)) = false → St n s e h → (∀ x e h, Ex (fin s) x e h → R x e h) → body (itK n0 Y R) (tidyF live e) h)
    {R : Xit → FEnv → Heap → Prop} {s : σ} {m : Nat} {e : FEnv} {h : Heap} (hm : n < m) (hs : St 0 s e h) (hR : ∀ x e h, Ex (foldC (fun i _ s => step i s) fin 0 (List.replicate n ()) s) x e h → R x e h) : wpIter n0 live body R m e h := by
  refine loop_range (l := List.replicate n ()) (enc := fun _ => .sc (.bool true)) (step := fun i _ s => step i s) (fin := fin) (St := St) (Ex := Ex) (by simpa using hl) ?_ ?_ (by simpa using hm) hs hR
  · intro i x s e h Y R _ hi _ _ hd hw hs hk
    simp only [List.length_replicate] at hi hd
    exact hgo i s e h Y R hi hd hw hs hk
  · intro s e h Y R hd hs hR
    simp only [List.length_replicate] at hd hs
    exact hend s e h Y R hd hs hR

theorem iter_unroll {n0 : Nat} {live : Option (List Tmp)} {body : (Xit → FEnv → Heap → Prop) → FEnv → Heap → Prop} {R : Xit → FEnv → Heap → Prop} {e : FEnv} {h : Heap} {k : Nat} (hk : 0 < k)
    (hb : body (itK n0 (wpIter n0 live body R (k - 1)) R) (tidyF live e) h) : wpIter n0 live body R k e h := by
  obtain ⟨m, rfl⟩ : ∃ m, k = m + 1 := ⟨k - 1, by omega⟩
  rw [iter_succ]
  exact hb

/-! Lists of trees as lists of what they stand for -/
theorem list_enc' {enc : α → T} {Q : α → Prop} : ∀ {xs : List T}, (∀ y ∈ xs, ∃ a, y = enc a ∧ Q a) → ∃ l : List α, xs = l.map enc ∧ ∀ a ∈ l, Q a := by
  intro xs
  induction xs with
  | nil => intro _; exact ⟨[], rfl, fun _ h => (by cases h)⟩
  | cons x xs ih =>
    intro h
    obtain ⟨a, rfl, hq⟩ := h x (by simp)
    obtain ⟨l, rfl, hl⟩ := ih (fun y hy => h y (by simp [hy]))
    refine ⟨a :: l, rfl, fun b hb => ?_⟩
    cases hb with
    | head => exact hq
    | tail _ hb => exact hl b hb
theorem list_enc {enc : α → T} {xs : List T} (h : ∀ y ∈ xs, ∃ a, y = enc a) : ∃ l : List α, xs = l.map enc := by
  obtain ⟨l, hl, _⟩ := list_enc' (enc := enc) (Q := fun _ => True) (fun y hy => by obtain ⟨a, ha⟩ := h y hy; exact ⟨a, ha, trivial⟩)
  exact ⟨l, hl⟩

/-! What folds come to -/
theorem foldC_all {p : α → Bool} : ∀ (l : List α) (i : Nat) (u : Unit), foldC (fun _ x (_ : Unit) => if p x then .go () else .out false) (fun _ => true) i l u = l.all p := by
  intro l
  induction l with
  | nil => intro i u; rfl
  | cons x l ih =>
    intro i u
    simp only [foldC, List.all_cons]
    cases p x with
    | true => simpa using ih _ _
    | false => rfl
/-- A fold that never leaves. -/
theorem foldC_foldl {f : σ → α → σ} {fin : σ → ρ} : ∀ (l : List α) (i : Nat) (s : σ), foldC (fun _ x s => .go (f s x)) fin i l s = fin (l.foldl f s) := by
  intro l
  induction l with
  | nil => intro i s; rfl
  | cons x l ih => intro i s; simp only [foldC, List.foldl_cons]; exact ih _ _

end Go.Abs
