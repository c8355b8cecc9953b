/- One operation of the evaluator, and the machine's step that it stands for; regions in the order of the text. -/
import Derived.Test.YtkamfflnfnjbeaaAbsCall
set_option linter.unusedSimpArgs false
set_option linter.unusedVariables false
namespace Go.Abs
open Go

variable {P : Program} {pol : Pol} {K : Oracle} {I : Inl} {Z : Base} {D D' : Dom} {β β' : Bet} {w w' : World} {h h' : Heap} {ro : Option Nat} {M : Nat} {f : FuncId} {ρ : Operand → AV}

theorem aBuiltin_call {b : Builtin} {at_ : List TypeId} {ty : TypeId} {xs : List AV} {g : Tgt} {args : List AV} : aBuiltin P b at_ ty xs h ≠ some (.call g args) := by
  intro ha
  unfold aBuiltin at ha
  split at ha
  · split at ha <;> try (simp at ha)
    split at ha <;> try (simp at ha)
    all_goals (split at ha <;> try (simp at ha))
    all_goals (split at ha <;> simp at ha)
  · split at ha <;> try (simp at ha)
    split at ha <;> try (simp at ha)
    split at ha <;> simp at ha
  · split at ha <;> try (simp at ha)
    split at ha <;> simp at ha
  · simp at ha
  · simp at ha
  · simp at ha

theorem aOp_call {o : Oper} {g : Tgt} {args : List AV} (ha : aOp P pol f ρ h o = some (.call g args)) : ∃ c x, o.op = .call c ∧ c.callee = .value x ∧ aCallee (ρ x) (c.args.toList.map ρ) = some (.call g args) := by
  have flag : ∀ {x : Option AV}, (match x with | some v => some (Res.val v h) | none => none) ≠ some (.call g args) := by
    intro x hx
    cases x <;> simp at hx
  have hflag : ∀ {x : Option Heap}, (match x with | some h' => some (Res.skip h') | none => none) ≠ some (.call g args) := by
    intro x hx
    cases x <;> simp at hx
  cases hop : o.op with
  | call c =>
    simp only [aOp, hop] at ha
    split at ha
    · exact absurd ha aBuiltin_call
    · rename_i x hx; exact ⟨c, x, rfl, hx, ha⟩
    · simp at ha
  | move x => simp [aOp, hop] at ha
  | assign x =>
    exfalso; revert ha; simp only [aOp, hop]; repeat' split
    all_goals (intro ha; cases ha)
  | pick c a b =>
    exfalso; revert ha; simp only [aOp, hop]; repeat' split
    all_goals (intro ha; cases ha)
  | alloc t =>
    exfalso; revert ha; simp only [aOp, hop]; repeat' split
    all_goals (intro ha; cases ha)
  | box t x =>
    exfalso; revert ha; simp only [aOp, hop]; repeat' split
    all_goals (intro ha; cases ha)
  | build t parts => simp only [aOp, hop] at ha; exact absurd ha flag
  | buildSlice t len parts =>
    exfalso; revert ha; simp only [aOp, hop]; repeat' split
    all_goals (intro ha; cases ha)
  | load t a => simp only [aOp, hop] at ha; exact absurd ha flag
  | store t a x => simp only [aOp, hop] at ha; exact absurd ha hflag
  | nilCheck x =>
    exfalso; revert ha; simp only [aOp, hop]; repeat' split
    all_goals (intro ha; cases ha)
  | binOp op t x y yt => simp only [aOp, hop] at ha; exact absurd ha flag
  | unOp op t x =>
    exfalso; revert ha; simp only [aOp, hop]; repeat' split
    all_goals (intro ha; cases ha)
  | convert s t x =>
    exfalso; revert ha; simp only [aOp, hop]; repeat' split
    all_goals (intro ha; cases ha)
  | makeFunc fn first captured =>
    exfalso; revert ha; simp only [aOp, hop]; repeat' split
    all_goals (intro ha; cases ha)
  | makeMap t r => cases r <;> simp [aOp, hop] at ha
  | makeSlice t l c =>
    exfalso; revert ha; simp only [aOp, hop]; repeat' split
    all_goals (intro ha; cases ha)
  | slice t x lo hi mx => simp only [aOp, hop] at ha; exact absurd ha flag
  | fieldAddr s x fi => simp only [aOp, hop] at ha; exact absurd ha flag
  | field s x fi =>
    simp only [aOp, hop] at ha
    split at ha
    · exact absurd ha flag
    · simp at ha
  | indexAddr t x ix => simp only [aOp, hop] at ha; exact absurd ha flag
  | index t x ix => simp only [aOp, hop] at ha; exact absurd ha flag
  | lookup t x ix ok => simp only [aOp, hop] at ha; exact absurd ha flag
  | mapUpdate t m k x => simp only [aOp, hop] at ha; exact absurd ha hflag
  | insert t m k x => simp only [aOp, hop] at ha; exact absurd ha hflag
  | extract x i =>
    simp only [aOp, hop] at ha
    split at ha
    · split at ha <;> simp at ha
    · exact absurd ha flag
    · simp at ha
  | _ => simp [aOp, hop] at ha

theorem aOp_noDefer {o : Oper} {r : Res} (ha : aOp P pol f ρ h o = some r) : ∀ c, o.op ≠ .defer c := by
  intro c hc
  simp [aOp, hc] at ha

/-- The marks of an activation's loops over functions. -/
def Marks (M : Nat) (w : World) (ds : List Deferred) : Prop :=
  ∃ rs : List Nat, ds = rs.map (fun r => { target := .collected r, args := #[] }) ∧ rs.Nodup ∧ ∀ r ∈ rs, M ≤ r ∧ w.heap[r]? = some (.deferred (some []))

theorem Marks.mono {ds : List Deferred} (hm : Marks M w ds) (hx : Ext D β w D' β' w') : Marks M w' ds := by
  obtain ⟨rs, h1, h2, h3⟩ := hm
  exact ⟨rs, h1, h2, fun r hr => ⟨(h3 r hr).1, hx.defs r _ (h3 r hr).2⟩⟩

theorem Marks.nil : Marks M w [] := ⟨[], rfl, .nil, by simp⟩

structure St [Cp] (pol : Pol) (Z : Base) (M : Nat) (D : Dom) (β : Bet) (h : Heap) (w : World) (ro : Option Nat) (a : Act) (env : Env) : Prop where
  inv : Inv Z D β h w
  env : EnvRep D β w a.tmps env
  glob : GlobOk pol D w
  marks : Marks M w a.defers
  round : ∀ l, ro = some l → ∃ L, w.heap[l]? = some (.loop L)

theorem St.rep [Cp] {a : Act} {env : Env} (hs : St pol Z M D β h w ro a env) (x : Operand) : Rep D β w (a.eval x) (evalOperand pol env x) := eval_rep hs.env hs.glob x

/-- On to a later world, one temporary written. -/
theorem St.next [Cp] {a : Act} {env : Env} (hs : St pol Z M D β h w ro a env) (hx : Ext D β w D' β' w') (hi : Inv Z D' β' h' w') {v : Value} {x : AV} (hr : Rep D' β' w' v x) (dst : Option Tmp) :
    St pol Z M D' β' h' w' ro (a.put dst v) (put env dst x) where
  inv := hi
  env := (hs.env.mono hx).put dst hr
  glob := hs.glob.mono hx
  marks := by rw [put_defers]; exact hs.marks.mono hx
  round l hl := let ⟨L, hL⟩ := hs.round l hl; hx.loops l L hL

theorem Inv.fresh [Cp] (hi : Inv Z D β h w) : ∀ o e, h.length ≤ o → β o e = none := by
  intro o e h1
  cases hb : β o e with
  | none => rfl
  | some y => exact absurd (hi.dom o e y hb) (by omega)

theorem Inv.done [Cp] {tch : List Nat} (hi : Inv Z D β h w) (hf : Frm (stepS tch h h') D β w D' β' w') (hg : GInv Z D' β' w') (hob : ∀ (o : Nat) x, stepS tch h h' o → h'[o]? = some x → ObjOk D' β' w' o x)
    (hdm : ∀ o e y, β' o e = some y → (∃ e' y', β o e' = some y') ∨ o < h'.length) (hsame : ∀ o, ¬ stepS tch h h' o → h'[o]? = h[o]?) (hl : h.length ≤ h'.length) : Inv Z D' β' h' w' := by
  refine hi.step hg hf hsame hob hl fun o e y _ hy => ?_
  rcases hdm o e y hy with ⟨e', y', hy'⟩ | h
  · exact Nat.lt_of_lt_of_le (hi.dom o e' y' hy') hl
  · exact h

theorem Good.parts [Cp] {tch : List Nat} {v : AV} {r : Result Next} (hg : Good Z D β w h h' tch v r) : Done Z D β w h' (stepS tch h h') v r ∧ (∀ o, ¬ stepS tch h h' o → h'[o]? = h[o]?) ∧ h.length ≤ h'.length := hg

theorem Inv.kept [Cp] (hi : Inv Z D β h w) (hk : KeptW w w') : Inv Z (newD D w w') β h w' := by
  obtain ⟨hf, hg⟩ := frm_kept (S := fun _ => False) hk hi.g
  exact hi.step hg hf (fun _ _ => rfl) (fun _ _ h => h.elim) (Nat.le_refl _) (fun _ _ _ h => h.elim)

theorem mapO_snap_rep [Cp] {args : List AV} {ts : List T} {vs : List Value} (hi : Inv Z D β h w) (hm : mapO (snap h allObj 20) args = some ts) (hr : RepL D β w vs args) :
    vs.toArray.size = ts.length ∧ ∀ (i : Nat) v t, vs.toArray[i]? = some v → ts[i]? = some t → RepT (dObj D β allObj) w v t := by
  obtain ⟨h1, h2⟩ := mapO_get hm
  refine ⟨by simp [hr.1, h1], fun i v t hv ht => ?_⟩
  have hi' : i < args.length := by rw [h1]; exact (List.getElem?_eq_some_iff.1 ht).1
  have hx : args[i]? = some args[i] := by simp [hi']
  exact snap_rep (fun o x _ hx => hi.obj o x hx) (fun b hb => .inl hb) (fun o e b k hp hb => .inr ⟨o, e, k, hp, hb⟩) 20 _ v t (h2 i _ t hx ht) (hr.2 i v _ (by simpa using hv) hx)

/-- A call whose arguments are trees. -/
theorem pure_call {o : Oper} {a : Act} {next : Act → World → Prop} {Q : Exit → Act → World → Prop} {g : FuncId} {args : List AV} {ts : List T} {r : T} (hK : KOk P pol K) (ha : aOp P pol f ρ h o = some (.call (.fn g) args))
    (hts : allT args = some ts) (hr : K g ts = some r) (hd : ∀ b, D b → b < w.heap.size) (hgl : GlobOk pol D w) (hρ : ∀ x, Rep D β w (a.eval x) (ρ x))
    (hn : ∀ v w', KeptW w w' → RepT (newD D w w') w' v r → next (a.put o.dst v) w') : o.wpIn (FW ro) 0 P a w next Q := by
  obtain ⟨c, x, ho, hc, hcal⟩ := aOp_call ha
  obtain ⟨d, vs', hd1, hrl, hrun⟩ := callee_run (P := P) hcal (hρ x) (repL_args hρ c.args.toList)
  obtain ⟨hcl, hsim⟩ := hK g ts r hr
  have e := allT_eq hts
  subst e
  have hargs : c.args.map a.eval = (c.args.toList.map a.eval).toArray := by apply Array.ext'; simp
  refine wpIn_enter ho hc (by rw [hargs]; exact hd1 w) ((hrun w).trans (run_callFunc hcl _ w)) (hsim w D vs'.toArray hd hgl (by simpa using hrl.1) (fun i v t hv ht => ?_)) (fun e w' hR => ?_)
  · exact (hrl.2 i v (.t t) (by simpa using hv) (by simp [ht])).toT
  · obtain ⟨v, rfl, hk, hv⟩ := hR
    exact ⟨v, rfl, hn v w' hk hv⟩

/-- Any call, the whole heap at hand. -/
theorem full_call [Cp] {o : Oper} {a : Act} {next : Act → World → Prop} {Q : Exit → Act → World → Prop} {g : Tgt} {args : List AV} {v : AV} (hK : KOk P pol K) (hI : IOk P pol I) (ha : aOp P pol f ρ h o = some (.call g args))
    (hcall : aCall pol K I f (o.dst.getD 0) g args h = some (v, h')) (hi : Inv Z D β h w) (hgl : GlobOk pol D w) (hρ : ∀ x, Rep D β w (a.eval x) (ρ x))
    (hn : ∀ v' w' D' β', Rep D' β' w' v' v → Inv Z D' β' h' w' → Ext D β w D' β' w' → next (a.put o.dst v') w') : o.wpIn (FW ro) 0 P a w next Q := by
  obtain ⟨c, x, ho, hc, hcal⟩ := aOp_call ha
  obtain ⟨d, vs', hd1, hrl, hrun⟩ := callee_run (P := P) hcal (hρ x) (repL_args hρ c.args.toList)
  have hargs : c.args.map a.eval = (c.args.toList.map a.eval).toArray := by apply Array.ext'; simp
  have hd1' : (Deferred.ofValue (a.eval x) (c.args.map a.eval)).run P w = .ok d w := by rw [hargs]; exact hd1 w
  have post : ∀ e w', InlPost pol Z D β w v h' e w' → ∃ v', e = .returned v' ∧ next (a.put o.dst v') w' := by
    rintro e w' ⟨v', rfl, D', β', h1, h2, h3, h4⟩
    exact ⟨v', rfl, hn v' w' D' β' h4 h1 h3⟩
  cases g with
  | yl l =>
    simp only [aCall] at hcall
    obtain ⟨b, k, hb, hrun⟩ := hrun
    obtain ⟨g, tmps, assign, body, hy, hround⟩ := hI.yl l args h v h' hcall Z D β w vs' b k hi hgl hrl hb
    exact wpIn_round ho hc hd1' ((hrun w).trans hy) hround post
  | fn g =>
    have viaI : I (.fn g) args h = some (v, h') → o.wpIn (FW ro) 0 P a w next Q := by
      intro hi'
      obtain ⟨hcl, hsim⟩ := hI.fn g args h v h' hi'
      exact wpIn_enter ho hc hd1' ((hrun w).trans (run_callFunc hcl _ w)) (hsim Z D β w vs' hi hgl hrl) post
    simp only [aCall] at hcall
    split at hcall
    · exact viaI hcall
    · split at hcall
      · rename_i ts hts
        split at hcall
        · rename_i r hr
          simp at hcall
          obtain ⟨rfl, rfl⟩ := hcall
          refine pure_call hK ha hts hr hi.g.dlt hgl hρ (fun v' w' hk hv => hn v' w' _ _ (.t _ _ hv) (hi.kept hk) (ext_kept hk hi.g.dlt))
        · simp at hcall
      · split at hcall
        · rename_i ts hts
          split at hcall
          · rename_i r hr
            split at hcall
            · rename_i hp
              simp at hcall
              obtain ⟨rfl, rfl⟩ := hcall
              obtain ⟨hcl, hsim⟩ := hK g ts r hr
              obtain ⟨hsz, hrt⟩ := mapO_snap_rep hi hts hrl
              have hdl : ∀ b, dObj D β allObj b → b < w.heap.size := (hi.g.dObj allObj).dlt
              have hgl2 : GlobOk pol (dObj D β allObj) w := fun g x hx => (hgl g x hx).mono (fun b hb => .inl hb) (fun _ _ => rfl)
              refine wpIn_enter ho hc hd1' ((hrun w).trans (run_callFunc hcl _ w)) (hsim w _ _ hdl hgl2 hsz hrt) (fun e w' hR => ?_)
              obtain ⟨v', rfl, hk, hv⟩ := hR
              exact ⟨v', rfl, hn v' w' _ _ (.t _ _ (plain_rep hp hv)) (hi.kept hk) (ext_kept hk hi.g.dlt)⟩
            · simp at hcall
          · simp at hcall
        · exact viaI hcall

theorem step1_sim [Cp] {o : Oper} {env env' : Env} {a : Act} {next : Act → World → Prop} {Q : Exit → Act → World → Prop} (hK : KOk P pol K) (hI : IOk P pol I) (hs : aStep1 P pol K I f o env h = some (env', h')) (hst : St pol Z M D β h w ro a env)
    (hn : ∀ D' β' w' a', St pol Z M D' β' h' w' ro a' env' → Ext D β w D' β' w' → next a' w') : o.wpIn (FW ro) 0 P a w next Q := by
  have plain : ∀ r v, aOp P pol f (evalOperand pol env) h o = some r → resVal r = some (v, h') → env' = put env o.dst v → o.wpIn (FW ro) 0 P a w next Q := by
    intro r v ha hv he
    subst he
    obtain ⟨hd, hsame, hl⟩ := (op_good (ρr := a.eval) ha hv hst.inv.g hst.rep (fun o e h1 _ => hst.inv.fresh o e h1) (fun o' y _ hy => hst.inv.obj o' y hy)).parts
    refine wpIn_done (aOp_noDefer ha) hd fun v' w' D' β' hr hf hg hob hdm => ?_
    exact hn D' β' w' _ (hst.next hf.ext (hst.inv.done hf hg hob hdm hsame hl) hr o.dst) hf.ext
  unfold aStep1 at hs
  split at hs
  · rename_i v h2 ha
    simp at hs
    obtain ⟨rfl, rfl⟩ := hs
    exact plain _ v ha rfl rfl
  · rename_i h2 ha
    simp at hs
    obtain ⟨rfl, rfl⟩ := hs
    exact plain _ _ ha rfl rfl
  · rename_i g args ha
    split at hs
    · rename_i v h2 hc
      simp at hs
      obtain ⟨rfl, rfl⟩ := hs
      exact full_call hK hI ha hc hst.inv hst.glob hst.rep fun v' w' D' β' hr hi hx => hn D' β' w' _ (hst.next hx hi hr o.dst) hx
    · simp at hs
  · simp at hs

theorem St.freeze [Cp] {os : List Nat} {env env' : Env} {a : Act} (hst : St pol Z M D β h w ro a env) (hf : freeze os env h = some (env', h')) : ∃ D2, St pol Z M D2 β h' w ro a env' ∧ Ext D β w D2 β w := by
  obtain ⟨D2, h1, h2, h3, _⟩ := freeze_ok hf hst.inv
  exact ⟨D2, ⟨h1, h2 _ hst.env, fun g x hx => (hst.glob g x hx).mono h3 (fun _ _ => rfl), hst.marks, hst.round⟩, ⟨h3, fun _ _ => rfl, fun _ _ _ h => h, fun _ _ h => h, fun _ _ h => h, fun _ L h => ⟨L, h⟩, Nat.le_refl _⟩⟩

theorem step_sim [Cp] {o : Oper} {env env' : Env} {a : Act} {next : Act → World → Prop} {Q : Exit → Act → World → Prop} (hK : KOk P pol K) (hI : IOk P pol I) (hs : aStep P pol K I f o env h = some (env', h')) (hst : St pol Z M D β h w ro a env)
    (hn : ∀ D' β' w' a', St pol Z M D' β' h' w' ro a' env' → Ext D β w D' β' w' → next a' w') : o.wpIn (FW ro) 0 P a w next Q := by
  unfold aStep at hs
  split at hs
  · split at hs
    · rename_i env2 h2 hf
      obtain ⟨D2, hst2, hx⟩ := hst.freeze hf
      exact step1_sim hK hI hs hst2 fun D' β' w' a' h1 h2 => hn D' β' w' a' h1 (hx.trans h2)
    · simp at hs
  · exact step1_sim hK hI hs hst hn

theorem guard_sim {ops : Array Oper} {env : Env} {a : Act} {gd : Option (Nat × Bool)} {b : Bool} {o : Oper} (ho : o.guard = gd) (hg : guardOk ops.toList env gd = some b) (he : EnvRep D β w a.tmps env) : Region.wanted o (yielded ops a.tmps) = b := by
  unfold Region.wanted
  rw [ho]
  cases gd with
  | none => simp [guardOk] at hg; subst hg; rfl
  | some jw =>
    obtain ⟨j, want⟩ := jw
    simp only [guardOk, Array.getElem?_toList] at hg
    split at hg
    · rename_i o' ho'
      split at hg
      · rename_i d hd
        have hv : env.getD d .dead ≠ .dead → ∃ v, a.tmps[d]? = some v ∧ Rep D β w v (env.getD d .dead) := by
          intro hne
          by_cases hl : d < env.length
          · have h1 : env[d]? = some env[d] := by simp [hl]
            have h2 : a.tmps[d]? = some (a.tmps[d]'(by rw [he.1]; exact hl)) := by simp
            refine ⟨_, h2, ?_⟩
            rw [List.getD_eq_getElem?_getD, h1]
            exact he.2 d _ _ h2 h1
          · rw [List.getD_eq_getElem?_getD, List.getElem?_eq_none (Nat.le_of_not_lt hl)] at hne
            exact absurd rfl hne
        simp only [yielded, ho', Option.bind_some, hd]
        split at hg
        · rename_i b' hb
          obtain ⟨v, h1, h2⟩ := hv (by rw [hb]; simp)
          rw [hb] at h2
          obtain ⟨rfl, _⟩ := h2.toT.sc_eq
          simp at hg
          subst hg
          simp only [h1]
          cases b' <;> cases want <;> rfl
        · rename_i u hu hb
          obtain ⟨v, h1, h2⟩ := hv (by rw [hb]; simp)
          rw [hb] at h2
          obtain ⟨rfl, _⟩ := h2.toT.sc_eq
          simp at hg
          subst hg
          simp only [h1]
          cases v with
          | bool q => exact absurd rfl (hu q)
          | _ => cases want <;> rfl
        · simp at hg
      · simp at hg
    · simp at hg

theorem ops_sim [Cp] {ops : Array Oper} (hK : KOk P pol K) (hI : IOk P pol I) {Q : Exit → Act → World → Prop} : ∀ (rest : List Oper) {Z : Base} {D : Dom} {β : Bet} {h h' : Heap} {w : World} {env env' : Env} {a : Act}, aOps P pol K I f ops.toList rest env h = some (env', h') → St pol Z M D β h w ro a env →
    (∀ D' β' w' a', St pol Z M D' β' h' w' ro a' env' → Ext D β w D' β' w' → Q .normal a' w') → wpListIn (FW ro) 0 P ops Q rest a w := by
  intro rest
  induction rest with
  | nil =>
    intro Z D β h h' w env env' a hs hst hn
    simp [aOps] at hs
    obtain ⟨rfl, rfl⟩ := hs
    exact hn D β w a hst (.refl D β w)
  | cons o rest ih =>
    intro Z D β h h' w env env' a hs hst hn
    simp only [aOps] at hs
    split at hs
    · rename_i b hb
      have hw := guard_sim rfl hb hst.env
      simp only [wpListIn, hw]
      cases b with
      | true =>
        simp only [if_true] at hs ⊢
        split at hs
        · rename_i env1 h1 hstep
          exact step_sim hK hI hstep hst fun D' β' w' a' st1 x1 => ih hs st1 fun D'' β'' w'' a'' st2 x2 => hn D'' β'' w'' a'' st2 (x1.trans x2)
        · simp at hs
      | false =>
        refine ⟨fun _ _ => trivial, ?_⟩
        simp at hs
        exact ih hs (hst.next (.refl D β w) hst.inv undef_rep o.dst) hn
    · simp at hs

end Go.Abs
