/- The trace of a region's run in the order of the text. -/
import Derived.Test.YtkamfflnfnjbeaaAbsDrawC
set_option linter.unusedSimpArgs false
set_option linter.unusedVariables false
namespace Go.Abs
open Go

variable {P : Program} {pol : Pol} {K : Oracle} {I : Inl} {f : FuncId} {ops : Array Oper}

/-- What one step of the evaluator is: an operation, a call with trees, or a call with the heap. -/
inductive StepKind (P : Program) (pol : Pol) (K : Oracle) (I : Inl) (f : FuncId) (o : Oper) (ρ : Operand → AV) (h : Heap) (v : AV) (h' : Heap) : Prop
  | plain (r : Res) (ha : aOp P pol f ρ h o = some r) (hv : resVal r = some (v, h'))
  | pure (g : FuncId) (args : List AV) (ts : List T) (r : T) (ha : aOp P pol f ρ h o = some (.call (.fn g) args)) (ht : touch0 pol f ρ o = some []) (hts : allT args = some ts) (hr : K g ts = some r) (hv : v = .t r) (hh : h' = h)
  | full (g : Tgt) (args : List AV) (ha : aOp P pol f ρ h o = some (.call g args)) (ht : touch0 pol f ρ o = none) (hc : aCall pol K I f (o.dst.getD 0) g args h = some (v, h'))

theorem step1_kind {o : Oper} {env env' : Env} {h h' : Heap} (hs : aStep1 P pol K I f o env h = some (env', h')) : ∃ v, env' = put env o.dst v ∧ StepKind P pol K I f o (evalOperand pol env) h v h' := by
  unfold aStep1 at hs
  split at hs
  · rename_i v h2 ha
    simp at hs
    obtain ⟨rfl, rfl⟩ := hs
    exact ⟨v, rfl, .plain _ ha rfl⟩
  · rename_i h2 ha
    simp at hs
    obtain ⟨rfl, rfl⟩ := hs
    exact ⟨_, rfl, .plain _ ha rfl⟩
  · rename_i g args ha
    split at hs
    · rename_i v h2 hc
      simp at hs
      obtain ⟨rfl, rfl⟩ := hs
      refine ⟨v, rfl, ?_⟩
      obtain ⟨c, x, ho, hcal, hac⟩ := aOp_call ha
      cases ht : touch0 pol f (evalOperand pol env) o with
      | none => exact .full g args ha ht hc
      | some l =>
        have ht' := ht
        simp only [touch0, ho, hcal, hac] at ht
        cases g with
        | yl q => simp at ht
        | fn g =>
          simp only at ht
          split at ht
          · simp at ht
          · rename_i hni
            split at ht
            · rename_i ts hts
              simp at ht
              subst ht
              simp only [aCall] at hc
              rw [if_neg hni] at hc
              simp only [hts] at hc
              split at hc
              · rename_i r hr
                simp at hc
                exact .pure g args ts r ha ht' hts hr hc.1.symm hc.2.symm
              · simp at hc
            · simp at ht
    · simp at hs
  · simp at hs

structure Trace (P : Program) (pol : Pol) (K : Oracle) (I : Inl) (f : FuncId) (ops : Array Oper) (E : Nat → Env) (H : Nat → Heap) (τ : Nat → Option (List Nat)) : Prop where
  step : ∀ (j : Nat) o, ops[j]? = some o → ∃ b v, guardOk ops.toList (E j) o.guard = some b ∧ E (j + 1) = put (E j) o.dst v ∧ (H j).length ≤ (H (j + 1)).length ∧
    ((b = true ∧ StepKind P pol K I f o (evalOperand pol (E j)) (H j) v (H (j + 1)) ∧ τ j = touchN (touch0 pol f (evalOperand pol (E j)) o) (H j) (H (j + 1))) ∨
     (b = false ∧ v = .t (.sc undef) ∧ H (j + 1) = H j ∧ τ j = some []))

theorem trace_of : ∀ (rest : List Oper) (k : Nat) (env : Env) (h : Heap) (env' : Env) (h' : Heap) (ts : List (Option (List Nat))), aOpsD P pol K I f ops.toList rest env h = some (env', h', ts) → (∀ j : Nat, rest[j]? = ops[k + j]?) →
    ∃ (E : Nat → Env) (H : Nat → Heap), E 0 = env ∧ H 0 = h ∧ E rest.length = env' ∧ H rest.length = h' ∧ ts.length = rest.length ∧
      ∀ (j : Nat) o, rest[j]? = some o → ∃ b v, guardOk ops.toList (E j) o.guard = some b ∧ E (j + 1) = put (E j) o.dst v ∧ (H j).length ≤ (H (j + 1)).length ∧
    ((b = true ∧ StepKind P pol K I f o (evalOperand pol (E j)) (H j) v (H (j + 1)) ∧ ts.getD j none = touchN (touch0 pol f (evalOperand pol (E j)) o) (H j) (H (j + 1))) ∨
     (b = false ∧ v = .t (.sc undef) ∧ H (j + 1) = H j ∧ ts.getD j none = some [])) := by
  intro rest
  induction rest with
  | nil =>
    intro k env h env' h' ts hs _
    simp [aOpsD] at hs
    obtain ⟨rfl, rfl, rfl⟩ := hs
    exact ⟨fun _ => env, fun _ => h, rfl, rfl, rfl, rfl, rfl, fun j o ho => by simp at ho⟩
  | cons o rest ih =>
    intro k env h env' h' ts hs hk
    have hk' : ∀ j : Nat, rest[j]? = ops[k + 1 + j]? := fun j => by
      have := hk (j + 1)
      simpa [Nat.add_assoc, Nat.add_comm 1 j] using this
    have glue : ∀ (env1 : Env) (h1 : Heap) (ts1 : List (Option (List Nat))) (t0 : Option (List Nat)) (b : Bool) (v : AV), aOpsD P pol K I f ops.toList rest env1 h1 = some (env', h', ts1) → ts = t0 :: ts1 → guardOk ops.toList env o.guard = some b →
        env1 = put env o.dst v → h.length ≤ h1.length → ((b = true ∧ StepKind P pol K I f o (evalOperand pol env) h v h1 ∧ t0 = touchN (touch0 pol f (evalOperand pol env) o) h h1) ∨ (b = false ∧ v = .t (.sc undef) ∧ h1 = h ∧ t0 = some [])) →
        ∃ (E : Nat → Env) (H : Nat → Heap), E 0 = env ∧ H 0 = h ∧ E (o :: rest).length = env' ∧ H (o :: rest).length = h' ∧ ts.length = (o :: rest).length ∧
      ∀ (j : Nat) o', (o :: rest)[j]? = some o' → ∃ b v, guardOk ops.toList (E j) o'.guard = some b ∧ E (j + 1) = put (E j) o'.dst v ∧ (H j).length ≤ (H (j + 1)).length ∧
    ((b = true ∧ StepKind P pol K I f o' (evalOperand pol (E j)) (H j) v (H (j + 1)) ∧ ts.getD j none = touchN (touch0 pol f (evalOperand pol (E j)) o') (H j) (H (j + 1))) ∨
     (b = false ∧ v = .t (.sc undef) ∧ H (j + 1) = H j ∧ ts.getD j none = some [])) := by
      intro env1 h1 ts1 t0 b v hr ht hg he hl hc
      obtain ⟨E, H, e1, e2, e3, e4, e5, e6⟩ := ih (k + 1) env1 h1 env' h' ts1 hr hk'
      refine ⟨fun j => match j with | 0 => env | j + 1 => E j, fun j => match j with | 0 => h | j + 1 => H j, rfl, rfl, e3, e4, by simp [ht, e5], fun j o' ho' => ?_⟩
      cases j with
      | zero =>
        simp at ho'
        subst ho'
        refine ⟨b, v, hg, by simp only [e1, he], by simp only [e2]; exact hl, ?_⟩
        simp only [e2, ht]
        exact hc
      | succ j =>
        have := e6 j o' (by simpa using ho')
        simp only [ht]
        exact this
    simp only [aOpsD] at hs
    split at hs
    · rename_i b hb
      split at hs
      · rename_i hbt
        subst hbt
        split at hs
        · rename_i env1 h1 hstep
          split at hs
          · simp at hs
          · rename_i hlen
            split at hs
            · rename_i env2 h2 ts2 hrest
              simp at hs
              obtain ⟨rfl, rfl, rfl⟩ := hs
              obtain ⟨v, hv1, hv2⟩ := step1_kind hstep
              exact glue env1 h1 ts2 _ true v hrest rfl hb hv1 (by omega) (.inl ⟨rfl, hv2, rfl⟩)
            · simp at hs
        · simp at hs
      · rename_i hbf
        have hbf : b = false := by simpa using hbf
        subst hbf
        split at hs
        · rename_i env2 h2 ts2 hrest
          simp at hs
          obtain ⟨rfl, rfl, rfl⟩ := hs
          exact glue _ h ts2 _ false _ hrest rfl hb rfl (Nat.le_refl _) (.inr ⟨rfl, rfl, rfl, rfl⟩)
        · simp at hs
    · simp at hs

theorem trace_ops {env env' : Env} {h h' : Heap} {ts : List (Option (List Nat))} (hs : aOpsD P pol K I f ops.toList ops.toList env h = some (env', h', ts)) :
    ∃ (E : Nat → Env) (H : Nat → Heap), E 0 = env ∧ H 0 = h ∧ E ops.size = env' ∧ H ops.size = h' ∧ Trace P pol K I f ops E H (fun j => ts.getD j none) := by
  obtain ⟨E, H, e1, e2, e3, e4, _, e6⟩ := trace_of ops.toList 0 env h env' h' ts hs (fun j => by simp)
  exact ⟨E, H, e1, e2, by simpa using e3, by simpa using e4, ⟨fun j o ho => e6 j o (by simpa using ho)⟩⟩

section
variable {E : Nat → Env} {H : Nat → Heap} {τ : Nat → Option (List Nat)} (tr : Trace P pol K I f ops E H τ)

/-- Operation i may change object q. -/
def Chg (ops : Array Oper) (τ : Nat → Option (List Nat)) (i q : Nat) : Prop := ∃ o, ops[i]? = some o ∧ (kindOf o.op).quiet = false ∧ (τ i = none ∨ ∃ l, τ i = some l ∧ q ∈ l)

include tr

theorem Trace.len (i j : Nat) (hij : i ≤ j) (hj : j ≤ ops.size) : (H i).length ≤ (H j).length := by
  induction j with
  | zero => have : i = 0 := by omega
            subst this; exact Nat.le_refl _
  | succ j ih =>
    by_cases h : i = j + 1
    · subst h; exact Nat.le_refl _
    · have hlt : j < ops.size := by omega
      obtain ⟨b, v, _, _, hl, _⟩ := tr.step j ops[j] (by simp [hlt])
      exact Nat.le_trans (ih (by omega) (by omega)) hl

theorem Trace.envLen (j : Nat) (hj : j ≤ ops.size) : (E j).length = (E 0).length := by
  induction j with
  | zero => rfl
  | succ j ih =>
    have hlt : j < ops.size := by omega
    obtain ⟨b, v, _, he, _⟩ := tr.step j ops[j] (by simp [hlt])
    rw [he]
    have : ∀ (env : Env) (d : Option Tmp), (put env d v).length = env.length := by intro env d; cases d <;> simp [put]
    rw [this, ih (by omega)]

/-- A temporary that nobody between writes. -/
theorem Trace.envSame {k j t : Nat} (hkj : k ≤ j) (hj : j ≤ ops.size) (hn : ∀ i, k ≤ i → i < j → dstAt ops i ≠ some t) : (E j)[t]? = (E k)[t]? := by
  induction j with
  | zero => have : k = 0 := by omega
            subst this; rfl
  | succ j ih =>
    by_cases h : k = j + 1
    · subst h; rfl
    · have hlt : j < ops.size := by omega
      have ho : ops[j]? = some ops[j] := by simp [hlt]
      obtain ⟨b, v, _, he, _⟩ := tr.step j ops[j] ho
      rw [he, ← ih (by omega) (by omega) (fun i h1 h2 => hn i h1 (by omega))]
      have hd := hn j (by omega) (by omega)
      simp only [dstAt, ho, Option.bind_some] at hd
      cases hdst : ops[j].dst with
      | none => rfl
      | some d =>
        rw [hdst] at hd
        simp only [put]
        rw [List.getElem?_set_ne (fun e => hd (by rw [e]))]

/-- What a step leaves. -/
theorem Trace.frame {j q : Nat} {o : Oper} (ho : ops[j]? = some o) (hn : ¬ Chg ops τ j q) : (H (j + 1))[q]? = (H j)[q]? := by
  obtain ⟨b, v, _, _, hl, hcase⟩ := tr.step j o ho
  rcases hcase with ⟨_, hk, ht⟩ | ⟨_, _, hH, _⟩
  · cases hk with
    | pure g args ts r ha ht0 hts hr hv hh => rw [hh]
    | full g args ha ht0 hc =>
      exfalso
      obtain ⟨c, x, hop, hcal, _⟩ := aOp_call ha
      exact hn ⟨o, ho, by simp [kindOf, hop, hcal, Kind.quiet], .inl (by rw [ht, ht0]; rfl)⟩
    | plain r ha hv =>
      obtain ⟨l, h1, h2, h3, _⟩ := aOp_frame ha hv
      by_cases hq : (kindOf o.op).quiet = true
      · rw [h3 hq]
      · have hq' : (kindOf o.op).quiet = false := by simpa using hq
        rw [h1] at ht
        have hnl : q ∉ l ++ List.range' (H j).length ((H (j + 1)).length - (H j).length) := fun hm => hn ⟨o, ho, hq', .inr ⟨_, ht, hm⟩⟩
        by_cases hlt : q < (H j).length
        · exact h2.2 q hlt (fun hm => hnl (by simp [hm]))
        · have : ¬ q < (H (j + 1)).length := fun hlt' => hnl (by simp [List.mem_range'_1]; omega)
          rw [List.getElem?_eq_none (by omega), List.getElem?_eq_none (by omega)]
  · rw [hH]

theorem Trace.heapSame {k j q : Nat} (hkj : k ≤ j) (hj : j ≤ ops.size) (hn : ∀ i, k ≤ i → i < j → ¬ Chg ops τ i q) : (H j)[q]? = (H k)[q]? := by
  induction j with
  | zero => have : k = 0 := by omega
            subst this; rfl
  | succ j ih =>
    by_cases h : k = j + 1
    · subst h; rfl
    · have hlt : j < ops.size := by omega
      have ho : ops[j]? = some ops[j] := by simp [hlt]
      rw [tr.frame ho (hn j (by omega) (by omega)), ih (by omega) (by omega) (fun i h1 h2 => hn i h1 (by omega))]

/-- New objects are named. -/
theorem Trace.news {j q : Nat} {o : Oper} (ho : ops[j]? = some o) (h1 : (H j).length ≤ q) (h2 : q < (H (j + 1)).length) : Chg ops τ j q := by
  obtain ⟨b, v, _, _, hl, hcase⟩ := tr.step j o ho
  rcases hcase with ⟨_, hk, ht⟩ | ⟨_, _, hH, _⟩
  · cases hk with
    | pure g args ts r ha ht0 hts hr hv hh => rw [hh] at h2; omega
    | full g args ha ht0 hc =>
      obtain ⟨c, x, hop, hcal, _⟩ := aOp_call ha
      exact ⟨o, ho, by simp [kindOf, hop, hcal, Kind.quiet], .inl (by rw [ht, ht0]; rfl)⟩
    | plain r ha hv =>
      obtain ⟨l, q1, q2, q3, _⟩ := aOp_frame ha hv
      by_cases hq : (kindOf o.op).quiet = true
      · rw [q3 hq] at h2; omega
      · rw [q1] at ht
        exact ⟨o, ho, by simpa using hq, .inr ⟨_, ht, by simp [List.mem_range'_1]; omega⟩⟩
  · rw [hH] at h2; omega

end

end Go.Abs
