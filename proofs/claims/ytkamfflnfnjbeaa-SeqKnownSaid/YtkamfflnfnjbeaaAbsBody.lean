/- Functions: a body run in the caller's heap, a round of a loop over a function, a call with trees. -/
import Derived.Test.YtkamfflnfnjbeaaAbsCode
set_option linter.unusedSimpArgs false
set_option linter.unusedVariables false
namespace Go.Abs
open Go

variable {P : Program} {pol : Pol} {K : Oracle} {I : Inl} {Z : Base} {D D' D2 : Dom} {β β' β2 : Bet} {w w' w0 : World} {h h' : Heap} {ro : Option Nat} {M : Nat} {f : FuncId}

theorem aLoad_ptr {t : TypeId} {a x : AV} {va : Value} (hl : aLoad P t a h = some x) (ha : Rep D β w va a) : ∃ p, va = .pointer (some p) := by
  unfold aLoad at hl
  split at hl
  · have ht := ha.toT
    cases ht with
    | ip b off cs hD c hc hr => exact ⟨_, rfl⟩
  · cases ha with
    | ref o e i off b k hb => exact ⟨_, rfl⟩
  · simp at hl

def resultVar (tmps : Array Value) : ResultVar → Sem Value
  | .tmp t => pure (tmps.getD t undef)
  | .cell a t => do loadVar t (← asAddr (tmps.getD a undef))

theorem resultVar_run [Cp] {env : Env} {tmps : Array Value} {r : ResultVar} {x : AV} (hs : aResult P env h r = some x) (he : EnvRep D β w tmps env) (hi : Inv Z D β h w) : ∃ v, (resultVar tmps r).run P w = .ok v w ∧ Rep D β w v x := by
  have hev : ∀ t, Rep D β w (tmps.getD t undef) (env.getD t .dead) := fun t => by
    have := eval_rep (pol := ⟨fun _ _ => false, fun _ _ => false, fun _ _ _ => false, fun _ _ => false, fun _ _ => none, fun _ _ => [], fun _ => none⟩) (a := { tmps, defers := [] }) he (fun g x hx => by simp at hx) (.tmp t)
    exact this
  cases r with
  | tmp t => simp [aResult] at hs; subst hs; exact ⟨_, rfl, hev t⟩
  | cell a t =>
    simp only [aResult] at hs
    obtain ⟨v, h1, h2⟩ := aLoad_run (w := w) hs (hev a) (fun o y _ hy => hi.obj o y hy)
    obtain ⟨p, hp⟩ := aLoad_ptr hs (hev a)
    refine ⟨v, ?_, h2⟩
    simp only [resultVar]
    rw [hp] at h1 ⊢
    simpa [Instr.loadAt, Instr.sureAddr, asAddr, Sem.run, pure, Result.andThen] using h1

theorem results_list [Cp] {env : Env} {tmps : Array Value} (he : EnvRep D β w tmps env) (hi : Inv Z D β h w) : ∀ (rs : List ResultVar) (vs : List AV), aResults P env h rs = some vs → ∃ l, (rs.mapM (resultVar tmps)).run P w = .ok l w ∧ RepL D β w l vs := by
  intro rs
  induction rs with
  | nil => intro vs hs; simp [aResults] at hs; subst hs; exact ⟨[], rfl, rfl, by simp⟩
  | cons r rs ih =>
    intro vs hs
    simp only [aResults] at hs
    split at hs
    · rename_i x xs hx hxs
      simp at hs; subst hs
      obtain ⟨v, h1, h2⟩ := resultVar_run hx he hi
      obtain ⟨l, h3, h4⟩ := ih xs hxs
      refine ⟨v :: l, ?_, by simp [h4.1], fun i u y hu hy => ?_⟩
      · rw [List.mapM_cons]
        simp only [Sem.run_bind, h1, Result.andThen, h3, Sem.run_pure]
      · cases i with
        | zero => simp at hu hy; subst hu; subst hy; exact h2
        | succ i => exact h4.2 i u y (by simpa using hu) (by simpa using hy)
    · simp at hs

theorem results_run [Cp] {env : Env} {tmps : Array Value} {fn : Func} {vs : List AV} (hs : aResults P env h fn.results.toList = some vs) (he : EnvRep D β w tmps env) (hi : Inv Z D β h w) : ∃ v, (results fn tmps).run P w = .ok v w ∧ Rep D β w v (one vs) := by
  obtain ⟨l, h1, h2⟩ := results_list he hi fn.results.toList vs hs
  have hm : (fn.results.mapM (resultVar tmps)).run P w = .ok l.toArray w := by
    rw [Array.mapM_eq_mapM_toList]
    rw [map_eq_pure_bind]
    simp only [Sem.run_bind, h1, Result.andThen, Sem.run_pure]
  have e : results fn tmps = (do let vs ← fn.results.mapM (resultVar tmps); pure (if h : vs.size = 1 then vs[0] else .tuple vs)) := by
    unfold results resultVar
    congr 1
  refine ⟨if h : l.toArray.size = 1 then l.toArray[0] else .tuple l.toArray, ?_, ?_⟩
  · rw [e]
    simp only [Sem.run_bind, hm, Result.andThen, Sem.run_pure]
  · have tup : vs.length ≠ 1 → one vs = mkTup vs := by
      intro hne
      unfold one
      split
      · simp at hne
      · rfl
    split
    · rename_i hl
      have hl : l.length = 1 := by simpa using hl
      match vs, h2.1.symm.trans hl with
      | [x], _ => exact h2.2 0 _ x (by simp) rfl
    · rename_i hl
      have hl : l.length ≠ 1 := by simpa using hl
      rw [tup (by rw [← h2.1]; exact hl)]
      exact Rep.mkTup (by simpa using h2.1) (fun i v t hv ht => h2.2 i v t (by simpa using hv) ht)

/-- A mark's block is shut. -/
theorem take_inv [Cp] {r : Nat} {ds : Option (List Deferred)} (hi : Inv Z D β h w) (hr : w.heap[r]? = some (.deferred ds)) (hN : Z.N ≤ r) (hx : Ext D2 β2 w0 D β w) (hw : w0.heap.size ≤ r) :
    Inv Z D β h (w.putObj r (.deferred none)) ∧ Ext D2 β2 w0 D β (w.putObj r (.deferred none)) ∧ (∀ x v, Rep D β w v x → Rep D β (w.putObj r (.deferred none)) v x) := by
  obtain ⟨hnD, hnβ⟩ := hi.g.nd r ds hr hN
  have hlt := lt_of_heap hr
  have hoth : ∀ b, b ≠ r → (w.putObj r (.deferred none)).heap[b]? = w.heap[b]? := fun b hb => World.putObj_heap_other hb
  have hsame : (w.putObj r (.deferred none)).heap[r]? = some (.deferred none) := World.putObj_heap_same hlt
  have hrow : ∀ b n, rowSize w b = some n → rowSize (w.putObj r (.deferred none)) b = some n := by
    intro b n hn
    by_cases hb : b = r
    · subst hb; simp [rowSize, hr] at hn
    · simp only [rowSize, hoth b hb]; exact hn
  have hD : ∀ b, D b → (w.putObj r (.deferred none)).heap[b]? = w.heap[b]? := fun b hb => hoth b (fun e => hnD (e ▸ hb))
  have hβb : ∀ o e b k, β o e = some (b, k) → (w.putObj r (.deferred none)).heap[b]? = w.heap[b]? := fun o e b k hb => hoth b (fun e' => hnβ o e k (e' ▸ hb))
  have rep : ∀ x v, Rep D β w v x → Rep D β (w.putObj r (.deferred none)) v x := by
    intro x v hv
    induction hv with
    | t v x h => exact .t v x (h.mono (fun _ h => h) hD)
    | agg cs ts hl _ ih => exact .agg cs ts hl ih
    | tup cs ts hl _ ih => exact .tup cs ts hl ih
    | fn f a b x y ha hb _ _ ih1 ih2 => exact .fn f a b x y ha hb ih1 ih2
    | ref o e i off b k hb => exact .ref o e i off b k hb
    | ms0 a o e i k clip => exact .ms0 a o e i k clip
    | ms o e i len k clip b cap n hb hle hcap hclip hn hsz => exact .ms o e i len k clip b cap n hb hle hcap hclip (hrow _ _ hn) hsz
    | mp o b k hb => exact .mp o b k hb
    | yl o b k hb => exact .yl o b k hb
    | dead v => exact .dead v
  refine ⟨⟨⟨by simpa using hi.g.size0, fun b hb => (hoth b (by omega)).trans (hi.g.old b hb), hi.g.os, hi.g.out, fun b c ty fr hb hc => ?_, fun b hb => by simpa using hi.g.dlt b hb, hi.g.dn, fun o e b k hb => by simpa using hi.g.blt o e b k hb, hi.g.inj, fun b ds' hb hN' => ?_⟩, fun o x hx => ?_, hi.dom⟩, ?_, rep⟩
  · by_cases hb' : b = r
    · subst hb'; rw [hsame] at hc; cases hc
    · rw [hoth b hb'] at hc; exact hi.g.froz b c ty fr hb hc
  · by_cases hb' : b = r
    · subst hb'; exact ⟨hnD, hnβ⟩
    · rw [hoth b hb'] at hb; exact hi.g.nd b ds' hb hN'
  · have := hi.obj o x hx
    cases x with
    | gone => trivial
    | row k es mr =>
      refine ⟨this.1, fun e b k' hb => ?_⟩
      obtain ⟨q1, q2, q3, q4⟩ := this.2 e b k' hb
      refine ⟨q1, q2, q3, fun hm => ?_⟩
      obtain ⟨c, ty, r1, r2, r3⟩ := q4 hm
      refine ⟨c, ty, (hβb o e b k' hb).trans r1, r2, fun i x j t hi' hx' ht => ?_⟩
      obtain ⟨v, s1, s2, s3⟩ := r3 i x j t hi' hx' ht
      exact ⟨v, s1, s2, rep _ _ s3⟩
    | map es =>
      intro e b k hb
      obtain ⟨q0, q1, mes, clock, q2, q3, q4⟩ := this e b k hb
      exact ⟨q0, q1, mes, clock, (hβb o e b k hb).trans q2, q3, fun i m kv hm hk => ⟨(q4 i m kv hm hk).1, rep _ _ (q4 i m kv hm hk).2⟩⟩
    | loop f env params assign body busy pending =>
      intro e b k hb
      obtain ⟨q0, q1, L, q2, q3, q4, q5, q6, q7, q8, q9⟩ := this e b k hb
      exact ⟨q0, q1, L, (hβb o e b k hb).trans q2, q3, q4, q5, q6, q7, q8, q9.1, fun i v x hv hx => rep _ _ (q9.2 i v x hv hx)⟩
  · refine ⟨hx.sub, fun b hb => (hD b (hx.sub b hb)).trans (hx.same b hb), hx.bet, fun b n hn => hrow b n (hx.rows b n hn), fun b ds' hb => (hoth b (fun e => ?_)).trans (hx.defs b ds' hb), fun b L hb => ?_, by simpa using hx.size⟩
    · have := lt_of_heap hb; omega
    · obtain ⟨L', hL'⟩ := hx.loops b L hb
      refine ⟨L', (hoth b (fun e => ?_)).trans hL'⟩
      subst e; rw [hr] at hL'; cases hL'

/-- The marks are taken, the results read. -/
theorem leaves_sim [Cp] {fn : Func} {env : Env} {vs : List AV} {tmps : Array Value} {R : Ending → World → Prop} (hvs : aResults P env h fn.results.toList = some vs) (hZ : Z.N ≤ w0.heap.size)
    (hR : ∀ v w', Inv Z D β h w' → GlobOk pol D w' → Ext D2 β2 w0 D β w' → Rep D β w' v (one vs) → R (.returned v) w') :
    ∀ (ds : List Deferred) (w : World), Marks w0.heap.size w ds → Inv Z D β h w → GlobOk pol D w → Ext D2 β2 w0 D β w → EnvRep D β w tmps env → LeavesInM (FW none) 0 P fn tmps R ds .returning w := by
  intro ds
  induction ds with
  | nil =>
    intro w _ hi hg hx he
    obtain ⟨v, h1, h2⟩ := results_run hvs he hi
    exact ⟨v, h1, hR v w hi hg hx h2⟩
  | cons d ds ih =>
    intro w hm hi hg hx he
    obtain ⟨rs, e1, e2, e3⟩ := hm
    cases rs with
    | nil => simp at e1
    | cons r rs =>
      simp at e1
      obtain ⟨rfl, rfl⟩ := e1
      obtain ⟨hlo, hr⟩ := e3 r (by simp)
      have hN : Z.N ≤ r := Nat.le_trans hZ hlo
      obtain ⟨i1, x1, r1⟩ := take_inv hi hr hN hx hlo
      refine ⟨by simp, .inl ⟨r, _, rfl, run_takeDeferred hr, ih _ ?_ i1 (fun g x hgx => ?_) x1 ⟨he.1, fun i v x hv hxx => r1 _ _ (he.2 i v x hv hxx)⟩⟩⟩
      · have hnd := List.nodup_cons.1 e2
        refine ⟨rs, rfl, hnd.2, fun q hq => ⟨(e3 q (by simp [hq])).1, (World.putObj_heap_other (k := q) (r := r) (fun e => hnd.1 (by subst e; exact hq))).trans (e3 q (by simp [hq])).2⟩⟩
      · have := r1 (.t x) _ (.t _ _ (hg g x hgx))
        exact this.toT

/-- What is asked of a program: its functions' names, and the regions that draw their order. -/
structure ProgOk (P : Program) (pol : Pol) (ok : List (Nat × Nat) → Array Oper → Bool) : Prop where
  fns : ∀ f fn c, P.funcs[f]? = some fn → fn.body = some c → codeOk pol ok f c = true ∧ fn.name ≠ "runtime.NumGoroutine"

theorem env0_rep {vs : List Value} {args : List AV} (hr : RepL D β w vs args) (k : Nat) : EnvRep D β w (vs.toArray ++ Array.replicate (k - vs.toArray.size) undef) (args ++ List.replicate (k - args.length) .dead) := by
  refine ⟨by simp [hr.1], fun i v x hv hx => ?_⟩
  by_cases hi : i < args.length
  · rw [List.getElem?_append_left hi] at hx
    rw [Array.getElem?_append_left (by simp [hr.1, hi])] at hv
    exact hr.2 i v x (by simpa using hv) hx
  · rw [List.getElem?_append_right (Nat.le_of_not_lt hi), List.getElem?_replicate] at hx
    split at hx
    · cases hx; exact .dead v
    · cases hx

theorem body_sim [Cp] {ok : List (Nat × Nat) → Array Oper → Bool} {n : Nat} (hcp : ∀ f c, Cp.ok f c ↔ codeOk pol ok f c = true) (hP : ProgOk P pol ok) (hK : KOk P pol K) (hI : IOk P pol I) (hdraw : DrawnOk P pol K I ok)
    {args : List AV} {v : AV} (hb : aBody P pol K I n f args h = some (v, h')) : Callable P f ∧ ∀ (Z : Base) (D : Dom) (β : Bet) (w : World) (vs : List Value), Inv Z D β h w → GlobOk pol D w → RepL D β w vs args →
      CallsIn Fence.wide 0 P f vs.toArray w (InlPost pol Z D β w v h') := by
  unfold aBody at hb
  split at hb
  · rename_i fn hf
    split at hb
    · rename_i c hc
      obtain ⟨hcok, hname⟩ := hP.fns f fn c hf hc
      refine ⟨⟨fn, c, hf, hc, hname⟩, fun Z D β w vs hi hg hr => ?_⟩
      have fin : ∀ x env1 h1 rs, aCode P pol K I n f 0 c (args ++ List.replicate (fn.ntmps - args.length) .dead) h = some (x, env1, h1) → (x = .normal ∨ x = .ret) → aResults P env1 h1 fn.results.toList = some rs → v = one rs → h' = h1 →
          CallsIn Fence.wide 0 P f vs.toArray w (InlPost pol Z D β w v h') := by
        intro x env1 h1 rs hcode hx hrs hv hh
        subst hv; subst hh
        refine callsIn_of_wp_marks (F := FW none) hf hc trivial ?_ rfl
        refine code_sim hcp hK hI hdraw c (ro := none) (M := w.heap.size) hcode hcok ⟨hi, env0_rep hr fn.ntmps, hg, .nil, fun l hl => by simp at hl⟩ (Nat.le_refl _) fun D' β' w' a' st hxx => ?_
        have := leaves_sim (fn := fn) (tmps := a'.tmps) (R := InlPost pol Z D β w (one rs) h') (w0 := w) (D2 := D) (β2 := β) hrs hi.g.size0 (fun v w'' i2 g2 x2 r2 => ⟨v, rfl, D', β', i2, g2, x2, r2⟩) a'.defers w' st.marks st.inv st.glob hxx st.env
        rcases hx with rfl | rfl
        · exact this
        · exact this
      split at hb
      · rename_i env1 h1 hcode
        split at hb
        · rename_i rs hrs
          simp at hb
          exact fin _ env1 h1 rs hcode (.inl rfl) hrs hb.1.symm hb.2.symm
        · simp at hb
      · rename_i env1 h1 hcode
        split at hb
        · rename_i rs hrs
          simp at hb
          exact fin _ env1 h1 rs hcode (.inr rfl) hrs hb.1.symm hb.2.symm
        · simp at hb
      · simp at hb
    · simp at hb
  · simp at hb

theorem setAll_rep {env : Env} {tmps : Array Value} (he : EnvRep D β w tmps env) : ∀ (ps : List Tmp) (vs : List Value) (args : List AV), RepL D β w vs args →
    EnvRep D β w ((ps.zip vs).foldl (fun tmps (x : Tmp × Value) => tmps.setIfInBounds x.1 x.2) tmps) (setAll env (ps.zip args)) := by
  intro ps
  induction ps generalizing env tmps with
  | nil => intro vs args _; exact he
  | cons p ps ih =>
    intro vs args hr
    cases vs with
    | nil =>
      cases args with
      | nil => exact he
      | cons x xs => have := hr.1; simp at this
    | cons v vs =>
      cases args with
      | nil => have := hr.1; simp at this
      | cons x xs =>
        simp only [List.zip_cons_cons, List.foldl_cons, setAll]
        exact ih (he.set p (hr.2 0 v x rfl rfl)) vs xs ⟨by have := hr.1; simpa using this, fun i u y hu hy => hr.2 (i + 1) u y (by simpa using hu) (by simpa using hy)⟩

theorem inl_sim [Cp] {ok : List (Nat × Nat) → Array Oper → Bool} {n : Nat} (hcp : ∀ f c, Cp.ok f c ↔ codeOk pol ok f c = true) (hP : ProgOk P pol ok) (hK : KOk P pol K) (hdraw : ∀ I, IOk P pol I → DrawnOk P pol K I ok) : ∀ d, IOk P pol (inl P pol K n d) := by
  intro d
  induction d with
  | zero => exact ⟨fun f args h v h' hs => by simp [inl] at hs, fun o args h v h' hs => by simp [inl] at hs⟩
  | succ d ih =>
    refine ⟨fun f args h v h' hs => ?_, fun l args h v h' hs Z D β w vs b k hi hg hr hb => ?_⟩
    · simp only [inl] at hs
      exact body_sim hcp hP hK ih (hdraw _ ih) hs
    · simp only [inl] at hs
      split at hs
      · rename_i f env params assign body hget
        split at hs
        · simp at hs
        · rename_i hlen
          have hlen : args.length = params.length := by simpa using hlen
          obtain ⟨_, hD, L, hL, hcode, hpar, has, hbd, hpend, hstate, henv⟩ := hi.obj _ _ hget 0 b k hb
          have hsz : vs.toArray.size = L.params.size := by
            have e1 : L.params.size = params.length := by rw [← hpar]; simp
            rw [e1, ← hlen]; simp [hr.1]
          have hy := run_yield (P := P) (args := vs.toArray) hL hsz
          refine ⟨_, _, _, _, hy, ?_⟩
          split at hs
          · rename_i env1 h1 hassign
            split at hs
            · rename_i h1b hbusy
              refine roundIn_of_wpIn trivial ?_
              have henv' : EnvRep D β w ((L.params.zip vs.toArray).foldl (fun tmps x => tmps.setIfInBounds x.1 x.2) L.tmps) (setAll env (params.zip args)) := by
                have := setAll_rep henv params vs args hr
                rw [← Array.foldl_toList, Array.toList_zip, hpar]
                exact this
              rw [has, hbd]
              have st0 : St pol Z w.heap.size D β h w (some b) { tmps := (L.params.zip vs.toArray).foldl (fun tmps x => tmps.setIfInBounds x.1 x.2) L.tmps, defers := [] } (setAll env (params.zip args)) :=
                ⟨hi, henv', hg, .nil, fun l' hl' => by cases hl'; exact ⟨L, hL⟩⟩
              refine code_sim hcp hK ih (hdraw _ ih) assign (ro := some b) (M := w.heap.size) (n := n) (f := f) hassign ((hcp _ _).1 hcode.1) st0 (Nat.le_refl _) fun D1 β1 w1 a1 st1 x1 => ?_
              -- the round begins
              unfold busyOf at hbusy
              split at hbusy
              · rename_i f1 env1' ps1 as1 bd1 hget1
                simp at hbusy
                subst hbusy
                have hb1 := x1.bet _ _ _ hb
                obtain ⟨_, hD1, L1, hL1, hc1, hp1, ha1, hbd1, hpe1, hst1, he1⟩ := st1.inv.obj _ _ hget1 0 b k hb1
                refine ⟨_, run_beginRound hL1 (by simpa using hst1), ?_⟩
                obtain ⟨i2, x2⟩ := inv_putLoop (x := .loop f1 env1' ps1 as1 bd1 true none) (L' := { L1 with state := .busy }) st1.inv hb1 hD1 hL1 (by
                  intro e b' k' hb'
                  have hx' := putLoop_ext (L' := { L1 with state := .busy }) st1.inv hb1 hD1 hL1
                  obtain ⟨q0, _⟩ := st1.inv.obj _ _ hget1 e b' k' hb'
                  subst q0
                  rw [hb1] at hb'
                  cases hb'
                  exact ⟨rfl, hD1, _, World.putObj_heap_same (lt_of_heap hL1), hc1, hp1, ha1, hbd1, hpe1, rfl, he1.mono hx'⟩)
                have st2 : St pol Z w.heap.size D1 β1 (h1.set l (.loop f1 env1' ps1 as1 bd1 true none)) (w1.putObj b (.loop { L1 with state := .busy })) (some b) a1 env1 :=
                  ⟨i2, st1.env.mono x2, st1.glob.mono x2, st1.marks.mono x2, fun l' hl' => by cases hl'; exact x2.loops b L1 hL1⟩
                have fin : ∀ (x : Xit) (jump : Option Code) env3 h3, aCode P pol K (inl P pol K n d) n f 0 body env1 (h1.set l (.loop f1 env1' ps1 as1 bd1 true none)) = some (x, env3, h3) → idleOf h3 l jump = some (v, h') →
                    (∀ a w3 v' w4, (Instr.endRound b jump).run P w3 = .ok v' w4 → InlPost pol Z D β w v h' (.returned v') w4 → roundPost P b (InlPost pol Z D β w v h') x.toExit a w3) →
                    body.wpIn (Fence.wide.inRound b) 0 P (roundPost P b (InlPost pol Z D β w v h')) a1 (w1.putObj b (.loop { L1 with state := .busy })) := by
                  intro x jump env3 h3 hbody hidle hpost
                  refine code_sim hcp hK ih (hdraw _ ih) body (ro := some b) (M := w.heap.size) (n := n) (f := f) hbody ((hcp _ _).1 hcode.2) st2 (by simpa using x1.size) fun D3 β3 w3 a3 st3 x3 => ?_
                  unfold idleOf at hidle
                  split at hidle
                  · rename_i f3 env3' ps3 as3 bd3 hget3
                    simp at hidle
                    obtain ⟨rfl, rfl⟩ := hidle
                    have hb3 := x3.bet _ _ _ hb1
                    obtain ⟨_, hD3, L3, hL3, hc3, hp3, ha3, hbd3, hpe3, hst3, he3⟩ := st3.inv.obj _ _ hget3 0 b k hb3
                    have hend := run_endRound (P := P) jump hL3
                    obtain ⟨i4, x4⟩ := inv_putLoop (x := .loop f3 env3' ps3 as3 bd3 false jump) (L' := { L3 with state := if jump.isNone then .ready else .done, pending := jump }) st3.inv hb3 hD3 hL3 (by
                      intro e b' k' hb'
                      have hx' := putLoop_ext (L' := { L3 with state := if jump.isNone then .ready else .done, pending := jump }) st3.inv hb3 hD3 hL3
                      obtain ⟨q0, _⟩ := st3.inv.obj _ _ hget3 e b' k' hb'
                      subst q0
                      rw [hb3] at hb'
                      cases hb'
                      exact ⟨rfl, hD3, _, World.putObj_heap_same (lt_of_heap hL3), hc3, hp3, ha3, hbd3, rfl, by simp, he3.mono hx'⟩)
                    exact hpost a3 w3 _ _ hend ⟨_, rfl, D3, β3, i4, st3.glob.mono x4, ((x1.trans x2).trans x3).trans x4, .t _ _ (.sc _ rfl)⟩
                  · simp at hidle
                split at hs
                · rename_i env3 h3 hbody
                  exact fin .normal none env3 h3 hbody hs fun a w3 v' w4 h1 h2 => ⟨v', w4, h1, h2⟩
                · rename_i env3 h3 hbody
                  exact fin .ret (some .ret) env3 h3 hbody hs fun a w3 v' w4 h1 h2 => ⟨v', w4, h1, h2⟩
                · rename_i id env3 h3 hbody
                  exact fin (.exit id) (some (.exit id)) env3 h3 hbody hs fun a w3 v' w4 h1 h2 => ⟨v', w4, h1, h2⟩
                · simp at hs
              · simp at hbusy
            · simp at hs
          · simp at hs
      · simp at hs

/-- A call with trees, in an empty heap. -/
theorem top_sim [Cp] {ok : List (Nat × Nat) → Array Oper → Bool} {n d : Nat} (hcp : ∀ f c, Cp.ok f c ↔ codeOk pol ok f c = true) (hP : ProgOk P pol ok) (hK : KOk P pol K) (hdraw : ∀ I, IOk P pol I → DrawnOk P pol K I ok)
    {ts : List T} {r : T} (hr : runTop P pol K n d f ts = some r) : PureSim P pol f ts r := by
  unfold runTop at hr
  split at hr
  · rename_i v h' hb
    have hI := inl_sim (n := n) hcp hP hK hdraw d
    obtain ⟨hc, hsim⟩ := body_sim hcp hP hK hI (hdraw _ hI) hb
    refine ⟨hc, fun w D args hd hg hsz hargs => ?_⟩
    have hi : Inv { N := w.heap.size, W := w, D := D } D (fun _ _ => none) [] w :=
      ⟨⟨Nat.le_refl _, fun _ _ => rfl, rfl, rfl, fun b c ty fr hb hc => absurd (lt_of_heap hc) (by simp at hb ⊢; omega), hd, fun b hb _ => hb, fun o e b k hb => by simp at hb, fun o e b k o' e' k' hb => by simp at hb,
        fun b ds hb hN => absurd (lt_of_heap hb) (by simp at hN ⊢; omega)⟩, fun o x hx => by simp at hx, fun o e y hy => by simp at hy⟩
    have hrl : RepL D (fun _ _ => none) w args.toList (ts.map .t) := repL_trees hsz hargs
    have := hsim _ D _ w args.toList hi hg hrl
    simp only [Array.toArray_toList] at this
    refine CallsIn.mono this fun e w' hp => ?_
    obtain ⟨v', rfl, D', β', i2, _, x2, r2⟩ := hp
    refine ⟨v', rfl, ⟨i2.g.size0, i2.g.old, i2.g.os, i2.g.out, i2.g.froz⟩, ?_⟩
    have hs := snap_rep (D2 := dObj D' β' allObj) (fun o x _ hx => i2.obj o x hx) (fun b hb => .inl hb) (fun o e b k hp hb => .inr ⟨o, e, k, hp, hb⟩) 20 _ v' r hr r2
    have g := i2.g.dObj allObj
    refine hs.mono (fun b hb => ?_) (fun _ _ => rfl)
    by_cases hl : b < w.heap.size
    · exact .inl (g.dn b hb hl)
    · exact .inr ⟨by omega, g.dlt b hb, fun ds hds => (g.nd b ds hds (by simp; omega)).1 hb⟩
  · simp at hr

end Go.Abs
