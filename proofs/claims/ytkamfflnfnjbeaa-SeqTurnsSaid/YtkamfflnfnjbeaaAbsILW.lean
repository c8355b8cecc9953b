/- What is shown of the states of code worked out ahead is so of the evaluator; the door for a function's contract. -/
import Derived.Test.YtkamfflnfnjbeaaAbsILS
set_option linter.unusedSimpArgs false
set_option linter.unusedVariables false
namespace Go.Abs
open Go

variable {P : Program} {pol : Pol} {K : Oracle} {I : Inl} {f : FuncId} {n m : Nat}

structure Agr (n : Nat) (e : FEnv) (env : Env) : Prop where
  len : env.length = n
  get : ∀ t, env.getD t .dead = e t

theorem Agr.eval {e : FEnv} {env : Env} (h : Agr n e env) : evalOperand pol env = rhoF pol e := by
  funext x
  cases x with
  | tmp t => exact h.get t
  | const v => simp only [evalOperand, rhoF, cSrc]; split <;> rfl
  | global g => simp only [evalOperand, rhoF, cSrc]; cases pol.glob g <;> rfl
  | func g => rfl

theorem Agr.put {e : FEnv} {env : Env} (h : Agr n e env) {d : Option Tmp} (hd : dstOk n d = true) (v : AV) : Agr n (upd e d v) (put env d v) := by
  cases d with
  | none => exact h
  | some d =>
    simp only [dstOk, decide_eq_true_eq] at hd
    refine ⟨by simp [Go.Abs.put, h.len], fun t => ?_⟩
    simp only [Go.Abs.put, upd, List.getD_eq_getElem?_getD]
    by_cases ht : t = d
    · subst ht
      rw [List.getElem?_set_self (by rw [h.len]; exact hd)]
      simp
    · rw [List.getElem?_set_ne (fun e => ht e.symm)]
      simp only [ht, if_false]
      rw [← h.get t, List.getD_eq_getElem?_getD]

theorem Agr.tidy {e : FEnv} {env : Env} (h : Agr n e env) (live : Option (List Tmp)) : Agr n (tidyF live e) (tidy live env) := by
  cases live with
  | none => exact h
  | some ts =>
    refine ⟨by simp [Go.Abs.tidy, keepOnly, h.len], fun t => ?_⟩
    simp only [Go.Abs.tidy, keepOnly, tidyF, List.getD_eq_getElem?_getD, List.getElem?_mapIdx]
    have := h.get t
    rw [List.getD_eq_getElem?_getD] at this
    cases hx : env[t]? with
    | none => rw [hx] at this; simp at this; simp [← this]
    | some v => rw [hx] at this; simp at this; simp [this]

theorem Agr.frz {e : FEnv} {env : Env} (h : Agr n e env) (hp : Heap) (p : Nat → Bool) : Agr n (frzF hp p e) (frzEnv hp p env) := by
  refine ⟨by simp [frzEnv, h.len], fun t => ?_⟩
  have := h.get t
  simp only [frzEnv, frzF, List.getD_eq_getElem?_getD, List.getElem?_map] at this ⊢
  cases hx : env[t]? with
  | none => rw [hx] at this; simp at this; rw [← this]; simp [Go.Abs.frz, frzCell, avoid]
  | some v => rw [hx] at this; simp at this; subst this; rfl

theorem Agr.freeze {e e' : FEnv} {env : Env} {h h' : Heap} {os : List Nat} (ha : Agr n e env) (hs : freezeF os e h = some (e', h')) : ∃ env', freeze os env h = some (env', h') ∧ Agr n e' env' := by
  unfold freezeF at hs
  split at hs
  · rename_i h2 hg
    cases hs
    exact ⟨_, by unfold Go.Abs.freeze; rw [hg], ha.frz h _⟩
  · simp at hs

theorem Agr.shrink {e e' : FEnv} {env : Env} {h h' : Heap} {n0 : Nat} (ha : Agr n e env) (hs : shrinkF n0 e h = some (e', h')) : ∃ env', shrink n0 env h = some (env', h') ∧ Agr n e' env' := by
  unfold shrinkF at hs
  split at hs
  · rename_i hl
    cases hs
    exact ⟨env, by unfold Go.Abs.shrink; rw [if_pos hl], ha⟩
  · rename_i hl
    split at hs
    · rename_i h2 hm
      cases hs
      exact ⟨_, by unfold Go.Abs.shrink; rw [if_neg hl, hm], ha.frz h _⟩
    · simp at hs

theorem guard_eq {ops : List Oper} {e : FEnv} {env : Env} (ha : Agr n e env) {g : Option (Nat × Bool)} {g' : Option (Tmp × Bool)} (hg : cGuard ops g = some g') : guardOk ops env g = gOk e g' := by
  cases g with
  | none => simp [cGuard] at hg; subst hg; rfl
  | some jw =>
    obtain ⟨j, want⟩ := jw
    simp only [cGuard] at hg
    split at hg
    · rename_i o ho
      split at hg
      · rename_i d hd
        cases hg
        simp only [guardOk, ho, hd, gOk, ha.get]
        rfl
      · simp at hg
    · simp at hg

theorem res_step {o : Oper} {e : FEnv} {env : Env} {h h' : Heap} {v : AV} (ha : Agr n e env) (hs : resStep pol K I f o.dst h (iStep P pol f e h (cOp P pol f o)) = some (v, h')) : aStep1 P pol K I f o env h = some (put env o.dst v, h') := by
  unfold aStep1
  rw [ha.eval]
  unfold resStep at hs
  split at hs
  · rename_i v2 h2 hr
    cases hs
    rw [step_ok hr]
  · rename_i h2 hr
    cases hs
    rw [step_ok hr]
  · rename_i g args hr
    rw [step_ok hr]
    simp only [hs]
  · simp at hs

theorem wpOps_ok {ops : List Oper} : ∀ (rest : List Oper) {l : List I1} {Q : FEnv → Heap → Prop} {e : FEnv} {env : Env} {h : Heap}, cOps P pol f n ops rest = some l → Agr n e env → wpOps P pol K I f l Q e h →
    ∃ env' h' e', aOps P pol K I f ops rest env h = some (env', h') ∧ Agr n e' env' ∧ Q e' h' := by
  intro rest
  induction rest with
  | nil => intro l Q e env h hc ha hw; simp [cOps] at hc; subst hc; exact ⟨env, h, e, rfl, ha, hw⟩
  | cons o rest ih =>
    intro l Q e env h hc ha hw
    simp only [cOps] at hc
    split at hc
    · rename_i g l2 hg hl
      split at hc
      · rename_i hd
        cases hc
        simp only [wpOps] at hw
        simp only [aOps, guard_eq ha hg]
        split at hw
        · rename_i hgo
          simp only [hgo, if_true]
          unfold aStep
          split at hw
          · rename_i hfz
            cases hfr : pol.frz f (o.dst.getD 0) with
            | true => simp [hfr] at hfz
            | false =>
              simp only [Bool.false_eq_true, if_false]
              split at hw
              · rename_i v h' hr
                rw [res_step ha hr]
                exact ih hl (ha.put hd v) hw
              · exact hw.elim
          · rename_i os hfz
            cases hfr : pol.frz f (o.dst.getD 0) with
            | false => simp [hfr] at hfz
            | true =>
              simp [hfr] at hfz
              subst hfz
              simp only [if_true]
              split at hw
              · rename_i e1 h1 hf
                rw [srcs_map, ← ha.eval] at hf
                obtain ⟨env1, hf1, ha1⟩ := ha.freeze hf
                rw [hf1]
                simp only
                split at hw
                · rename_i v h' hr
                  rw [res_step ha1 hr]
                  exact ih hl (ha1.put hd v) hw
                · exact hw.elim
              · exact hw.elim
        · rename_i hgo
          simp only [hgo, Bool.false_eq_true, if_false]
          exact ih hl (ha.put hd _) hw
        · exact hw.elim
      · simp at hc
    · simp at hc

theorem tk_eq {o : Oper} {e : FEnv} {env : Env} (ha : Agr n e env) : touch0 pol f (evalOperand pol env) o = tkOf pol f o.dst e (cTk pol o) := by
  rw [ha.eval]
  have h1 : ∀ x, objsOf (rhoF pol e x) = (srcs e [cSrc pol x]).flatMap objsOf := fun x => by simp [srcs, rhoF]
  have h2 : ∀ l : List Operand, (l.flatMap fun a => objsOf (rhoF pol e a)) = (srcs e (l.map (cSrc pol))).flatMap objsOf := fun l => by rw [srcs_map]; induction l <;> simp_all
  cases hop : o.op with
  | load t a => simp only [touch0, cTk, hop, tkOf, h1]
  | store t a x => simp only [touch0, cTk, hop, tkOf, h1]
  | lookup t m k ok => simp only [touch0, cTk, hop, tkOf, h1]
  | mapUpdate t m k x => simp only [touch0, cTk, hop, tkOf, h1]
  | insert t m k x => simp only [touch0, cTk, hop, tkOf, h1]
  | call c =>
    cases hc : c.callee with
    | builtin b => cases b <;> simp only [touch0, cTk, hop, hc, tkOf, h2, srcs, List.flatMap_nil]
    | value g =>
      simp only [touch0, cTk, hop, hc, tkOf, srcs_map]
      rfl
    | invoke r k => simp only [touch0, cTk, hop, hc, tkOf]
  | _ => simp only [touch0, cTk, hop, tkOf, srcs, List.flatMap_nil]

theorem wpOpsD_ok {ops : List Oper} : ∀ (rest : List Oper) {l : List I1} {Q : FEnv → Heap → List (Option (List Nat)) → Prop} {e : FEnv} {env : Env} {h : Heap}, cOpsD P pol f n ops rest = some l → Agr n e env → wpOpsD P pol K I f l Q e h →
    ∃ env' h' ts e', aOpsD P pol K I f ops rest env h = some (env', h', ts) ∧ Agr n e' env' ∧ Q e' h' ts := by
  intro rest
  induction rest with
  | nil => intro l Q e env h hc ha hw; simp [cOpsD] at hc; subst hc; exact ⟨env, h, [], e, rfl, ha, hw⟩
  | cons o rest ih =>
    intro l Q e env h hc ha hw
    simp only [cOpsD] at hc
    split at hc
    · rename_i g l2 hg hl
      split at hc
      · rename_i hd
        cases hc
        simp only [wpOpsD] at hw
        simp only [aOpsD, guard_eq ha hg]
        split at hw
        · rename_i hgo
          simp only [hgo, if_true]
          split at hw
          · rename_i v h' hr
            rw [res_step ha hr]
            simp only
            split at hw
            · exact hw.elim
            · rename_i hlen
              obtain ⟨env2, h2, ts, e2, r1, r2, r3⟩ := ih hl (ha.put hd v) hw
              refine ⟨env2, h2, _, e2, by simp only [hlen, if_false, r1]; rfl, r2, ?_⟩
              rw [tk_eq ha]
              exact r3
          · exact hw.elim
        · rename_i hgo
          simp only [hgo, Bool.false_eq_true, if_false]
          obtain ⟨env2, h2, ts, e2, r1, r2, r3⟩ := ih hl (ha.put hd _) hw
          exact ⟨env2, h2, _, e2, by simp only [r1], r2, r3⟩
        · exact hw.elim
      · simp at hc
    · simp at hc

theorem wpIter_ok {n0 : Nat} {live : Option (List Tmp)} {body : (Xit → FEnv → Heap → Prop) → FEnv → Heap → Prop} {aBody : Env → Heap → Option (Xit × Env × Heap)} {Q : Xit → FEnv → Heap → Prop}
    (hb : ∀ {Q : Xit → FEnv → Heap → Prop} {e : FEnv} {env : Env} {h : Heap}, Agr n e env → body Q e h → ∃ x env' h' e', aBody env h = some (x, env', h') ∧ Agr n e' env' ∧ Q x e' h') :
    ∀ (k : Nat) {e : FEnv} {env : Env} {h : Heap}, Agr n e env → wpIter n0 live body Q k e h → ∃ x env' h' e', iter n0 live aBody k env h = some (x, env', h') ∧ Agr n e' env' ∧ Q x e' h' := by
  intro k
  induction k with
  | zero => intro e env h _ hw; exact hw.elim
  | succ k ih =>
    intro e env h ha hw
    simp only [wpIter] at hw
    obtain ⟨x, env1, h1, e1, r1, r2, r3⟩ := hb (ha.tidy live) hw
    cases x with
    | normal =>
      simp only at r3
      split at r3
      · rename_i e2 h2 hs
        obtain ⟨env2, q1, q2⟩ := r2.shrink hs
        obtain ⟨x, env3, h3, e3, s1, s2, s3⟩ := ih q2 r3
        exact ⟨x, env3, h3, e3, by simp only [iter, r1, q1]; exact s1, s2, s3⟩
      · exact r3.elim
    | exit id => exact ⟨_, env1, h1, e1, by simp only [iter, r1], r2, r3⟩
    | ret => exact ⟨_, env1, h1, e1, by simp only [iter, r1], r2, r3⟩

theorem wpC_ok : ∀ (c : Code) {bid : Nat} {Q : Xit → FEnv → Heap → Prop} {e : FEnv} {env : Env} {h : Heap}, Agr n e env → wpC P pol K I m f (cCode P pol f n bid c) Q e h →
    ∃ x env' h' e', aCode P pol K I m f bid c env h = some (x, env', h') ∧ Agr n e' env' ∧ Q x e' h' := by
  intro c
  induction c with
  | skip => intro bid Q e env h ha hw; exact ⟨_, env, h, e, rfl, ha, hw⟩
  | label l => intro bid Q e env h ha hw; exact ⟨_, env, h, e, rfl, ha, hw⟩
  | exit id => intro bid Q e env h ha hw; exact ⟨_, env, h, e, rfl, ha, hw⟩
  | ret => intro bid Q e env h ha hw; exact ⟨_, env, h, e, rfl, ha, hw⟩
  | region id ops dr =>
    intro bid Q e env h ha hw
    cases dr with
    | false =>
      simp only [cCode] at hw
      split at hw
      · rename_i l hl
        simp only [wpC] at hw
        obtain ⟨env2, h2, e2, r1, r2, r3⟩ := wpOps_ok _ hl ha hw
        exact ⟨_, env2, h2, e2, by simp only [aCode, r1], r2, r3⟩
      · exact hw.elim
    | true =>
      simp only [cCode] at hw
      split at hw
      · rename_i l hl
        simp only [wpC] at hw
        obtain ⟨env2, h2, ts, e2, r1, r2, r3, r4⟩ := wpOpsD_ok _ hl ha hw
        exact ⟨_, env2, h2, e2, by simp only [aCode, r1, r3, if_true], r2, r4⟩
      · exact hw.elim
  | seq a b iha ihb =>
    intro bid Q e env h ha hw
    simp only [cCode, wpC] at hw
    obtain ⟨x, env1, h1, e1, r1, r2, r3⟩ := iha ha hw
    cases x with
    | normal =>
      obtain ⟨x, env2, h2, e2, s1, s2, s3⟩ := ihb r2 r3
      exact ⟨x, env2, h2, e2, by simp only [aCode, r1]; exact s1, s2, s3⟩
    | exit id => exact ⟨_, env1, h1, e1, by simp only [aCode, r1], r2, r3⟩
    | ret => exact ⟨_, env1, h1, e1, by simp only [aCode, r1], r2, r3⟩
  | cond t a b iha ihb =>
    intro bid Q e env h ha hw
    simp only [cCode, wpC] at hw
    split at hw
    · rename_i v hv
      have hv' : evalOperand pol env t = .t (.sc (.bool v)) := by rw [ha.eval]; exact hv
      cases v with
      | true =>
        obtain ⟨x, env2, h2, e2, s1, s2, s3⟩ := iha ha (by simpa using hw)
        exact ⟨x, env2, h2, e2, by simp only [aCode, hv', if_true]; exact s1, s2, s3⟩
      | false =>
        obtain ⟨x, env2, h2, e2, s1, s2, s3⟩ := ihb ha (by simpa using hw)
        exact ⟨x, env2, h2, e2, by simp only [aCode, hv', Bool.false_eq_true, if_false]; exact s1, s2, s3⟩
    · exact hw.elim
  | block id c ih =>
    intro bid Q e env h ha hw
    simp only [cCode, wpC] at hw
    obtain ⟨x, env1, h1, e1, r1, r2, r3⟩ := ih ha hw
    cases x with
    | normal => exact ⟨_, env1, h1, e1, by simp only [aCode, r1], r2, r3⟩
    | ret => exact ⟨_, env1, h1, e1, by simp only [aCode, r1], r2, r3⟩
    | exit j =>
      simp only at r3
      split at r3
      · rename_i hj
        exact ⟨_, env1, h1, e1, by simp only [aCode, r1, hj, if_true], r2, r3⟩
      · rename_i hj
        exact ⟨_, env1, h1, e1, by simp only [aCode, r1, hj, if_false], r2, r3⟩
  | loop c ih =>
    intro bid Q e env h ha hw
    simp only [cCode, wpC] at hw
    simp only [aCode]
    exact wpIter_ok (body := wpC P pol K I m f (cCode P pol f n bid c)) (fun ha hw => ih ha hw) m ha hw
  | scope c ih =>
    intro bid Q e env h ha hw
    simp only [cCode] at hw
    simp only [aCode]
    exact ih ha hw
  | rangeFunc g params assign body _ _ =>
    intro bid Q e env h ha hw
    simp only [cCode, wpC] at hw
    have hg : evalOperand pol env g = (cSrc pol g).get e := by rw [ha.eval]; rfl
    have henv : tidy (pol.live f bid) env = (List.range n).map (tidyF (pol.live f bid) e) := by
      have ht := ha.tidy (pol.live f bid)
      apply List.ext_getElem?
      intro i
      rw [List.getElem?_map]
      by_cases hi : i < n
      · have := ht.get i
        rw [List.getD_eq_getElem?_getD, List.getElem?_eq_getElem (by rw [ht.len]; exact hi)] at this
        rw [List.getElem?_range hi, List.getElem?_eq_getElem (by rw [ht.len]; exact hi)]
        simpa using this
      · rw [List.getElem?_eq_none (by rw [ht.len]; omega), List.getElem?_eq_none (by simp; omega)]
        rfl
    simp only [aCode, hg]
    split at hw
    · rename_i gf args hcal
      simp only [hcal, henv]
      split at hw
      · rename_i v h2 hI
        rw [hI]
        simp only
        split at hw
        · rename_i e2 h3 hlo hs
          obtain ⟨env2, q1, q2⟩ := ha.shrink hs
          exact ⟨_, env2, h3, e2, by simp only [hlo, q1], q2, hw⟩
        · rename_i e2 h3 hlo hs
          obtain ⟨env2, q1, q2⟩ := ha.shrink hs
          exact ⟨_, env2, h3, e2, by simp only [hlo, q1], q2, hw⟩
        · rename_i id e2 h3 hlo hs
          obtain ⟨env2, q1, q2⟩ := ha.shrink hs
          exact ⟨_, env2, h3, e2, by simp only [hlo, q1], q2, hw⟩
        · exact hw.elim
      · exact hw.elim
    · exact hw.elim
  | _ => intro bid Q e env h ha hw; exact hw.elim

theorem res_eq {e : FEnv} {env : Env} {h : Heap} (ha : Agr n e env) : ∀ {rs : List ResultVar} {rs' : List (Nat × Option (Bool × Nat))}, cRes P rs = some rs' → aResults P env h rs = resF e h rs' := by
  intro rs
  induction rs with
  | nil => intro rs' hc; simp [cRes] at hc; subst hc; rfl
  | cons r rs ih =>
    intro rs' hc
    cases r with
    | tmp t =>
      simp only [cRes] at hc
      split at hc
      · rename_i l hl
        cases hc
        simp only [aResults, aResult, ih hl, resF, ha.get]
        cases resF e h l <;> rfl
      · simp at hc
    | cell a t =>
      simp only [cRes] at hc
      split at hc
      · rename_i b k l h1 h2 hl
        cases hc
        simp only [aResults, aResult, ih hl, resF, ha.get, aLoad_eq h1 h2]
        cases iLoad b k (e a) h <;> cases resF e h l <;> rfl
      · simp at hc

theorem envOf_agr {args : List AV} {k : Nat} (hk : args.length ≤ k) : Agr k (envOf args) (args ++ List.replicate (k - args.length) .dead) := by
  refine ⟨by simp; omega, fun t => ?_⟩
  simp only [envOf, List.getD_eq_getElem?_getD]
  by_cases ht : t < args.length
  · rw [List.getElem?_append_left ht]
  · rw [List.getElem?_append_right (by omega), List.getElem?_eq_none (l := args) (by omega), List.getElem?_replicate]
    split <;> rfl

/-- What a function's body comes to, in a heap. -/
def wpFn (P : Program) (pol : Pol) (K : Oracle) (I : Inl) (m : Nat) (f : FuncId) (F : FnIL) (args : List AV) (h : Heap) (Q : AV → Heap → Prop) : Prop :=
  wpC P pol K I m f F.code (fun x e h => match x with
    | .exit _ => False
    | _ => match resF e h F.results with
      | some vs => Q (one vs) h
      | none => False) (envOf args) h

theorem wpFn_ok {F : FnIL} {args : List AV} {h : Heap} {Q : AV → Heap → Prop} (hF : cFn P pol f = some F) (hl : args.length ≤ F.ntmps) (hw : wpFn P pol K I m f F args h Q) : ∃ v h', aBody P pol K I m f args h = some (v, h') ∧ Q v h' := by
  unfold cFn at hF
  split at hF
  · rename_i fn hf
    split at hF
    · rename_i c rs hc hr
      cases hF
      obtain ⟨x, env', h', e', r1, r2, r3⟩ := wpC_ok c (envOf_agr (k := fn.ntmps) hl) hw
      have hres := res_eq (h := h') r2 hr
      unfold aBody
      simp only [hf, hc]
      rw [r1]
      cases x with
      | exit id => exact r3.elim
      | normal =>
        simp only at r3 ⊢
        split at r3
        · rename_i vs hvs
          rw [hres, hvs]
          exact ⟨_, _, rfl, r3⟩
        · exact r3.elim
      | ret =>
        simp only at r3 ⊢
        split at r3
        · rename_i vs hvs
          rw [hres, hvs]
          exact ⟨_, _, rfl, r3⟩
        · exact r3.elim
    · simp at hF
  · simp at hF

/-- A contract, by the states of the body. -/
theorem ans_wp {F : FnIL} {args : List T} {r : T} (n d : Nat) (hF : cFn P pol f = some F) (hl : args.length ≤ F.ntmps)
    (hw : wpFn P pol (ans P pol) (inl P pol (ans P pol) n d) n f F (args.map .t) [] (fun v h => snap h allObj 20 v = some r)) : ans P pol f args = some r := by
  obtain ⟨v, h', h1, h2⟩ := wpFn_ok hF (by simpa using hl) hw
  refine ans_of_top (n := n) (d := d) ?_
  unfold runTop
  rw [h1]
  exact h2

/-- A call in the caller's heap. -/
theorem inl_wp {F : FnIL} {args : List AV} {h : Heap} {n d : Nat} {Q : AV → Heap → Prop} (hF : cFn P pol f = some F) (hl : args.length ≤ F.ntmps) (hw : wpFn P pol K (inl P pol K n d) n f F args h Q) :
    ∃ v h', inl P pol K n (d + 1) (.fn f) args h = some (v, h') ∧ Q v h' := wpFn_ok hF hl hw

end Go.Abs
