/- The code of functions along the evaluator: sequences, branches, loops, ranges over functions. -/
import Derived.Test.YtkamfflnfnjbeaaAbsStep
import Derived.LoopNIn
import Derived.Scope
set_option linter.unusedSimpArgs false
set_option linter.unusedVariables false
namespace Go.Abs
open Go

variable {P : Program} {pol : Pol} {K : Oracle} {I : Inl} {Z : Base} {D D' D2 : Dom} {β β' β2 : Bet} {w w' : World} {h h' : Heap} {ro : Option Nat} {M : Nat} {f : FuncId}

def Xit.toExit : Xit → Exit
  | .normal => .normal
  | .exit id => .exit id
  | .ret => .ret

/-- The regions that draw their order, in any order that may be drawn. -/
def DrawnOk [Cp] (P : Program) (pol : Pol) (K : Oracle) (I : Inl) (ok : List (Nat × Nat) → Array Oper → Bool) : Prop :=
  ∀ {f : FuncId} {id : Nat} {ops : Array Oper} {Z : Base} {M : Nat} {D : Dom} {β : Bet} {h h' : Heap} {w : World} {ro : Option Nat} {env env' : Env} {a : Act} {ts : List (Option (List Nat))} {Q : Exit → Act → World → Prop},
    aOpsD P pol K I f ops.toList ops.toList env h = some (env', h', ts) → critOk (pol.crit f id) ts = true → ok (pol.crit f id) ops = true → St pol Z M D β h w ro a env →
    (∀ D' β' w' a', St pol Z M D' β' h' w' ro a' env' → Ext D β w D' β' w' → Q .normal a' w') → ∀ t, wpOpsIn (FW ro) 0 P ops Q (Region.schedule (P.follows .mixedOrders) ops t) a w

/-- What is asked of a function's code: its regions that draw their order. -/
def codeOk (pol : Pol) (ok : List (Nat × Nat) → Array Oper → Bool) (f : FuncId) : Code → Bool
  | .region id ops true => ok (pol.crit f id) ops
  | .seq a b => codeOk pol ok f a && codeOk pol ok f b
  | .cond _ a b => codeOk pol ok f a && codeOk pol ok f b
  | .rangeFunc _ _ a b => codeOk pol ok f a && codeOk pol ok f b
  | .block _ c => codeOk pol ok f c
  | .loop c => codeOk pol ok f c
  | .scope c => codeOk pol ok f c
  | _ => true

theorem ext_cut {n : Nat} (hx : Ext D β w D' β' w') (hb : ∀ o e y, β o e = some y → o < n) (hs : ∀ b, D' b → D2 b) (h2 : ∀ o e y, o < n → β' o e = some y → β2 o e = some y) : Ext D β w D2 β2 w' :=
  { hx with sub := fun b h => hs b (hx.sub b h), bet := fun o e y hy => h2 o e y (hb o e y hy) (hx.bet o e y hy) }

theorem St.shrink [Cp] {n : Nat} {env env' : Env} {a : Act} (hst : St pol Z M D β h w ro a env) (hs : shrink n env h = some (env', h')) :
    ∃ D2 β2, St pol Z M D2 β2 h' w ro a env' ∧ (∀ b, D b → D2 b) ∧ (∀ o e y, o < n → β o e = some y → β2 o e = some y) := by
  obtain ⟨D2, β2, h1, h2, h3, h4, _⟩ := shrink_ok hs hst.inv
  exact ⟨D2, β2, ⟨h1, h2 _ hst.env, fun g x hx => (hst.glob g x hx).mono h3 (fun _ _ => rfl), hst.marks, hst.round⟩, h3, h4⟩

theorem St.tidy [Cp] {live : Option (List Tmp)} {env : Env} {a : Act} (hst : St pol Z M D β h w ro a env) : St pol Z M D β h w ro a (tidy live env) :=
  { hst with env := tidy_rep hst.env }

theorem wpIn_scope {F : Fence} {n : Nat} {c : Code} {Q : Exit → Act → World → Prop} {a : Act} (h : c.wpIn F n P (Exit.noGoto Q) a w) : (Code.scope c).wpIn F n P Q a w := by
  intro b k cs hro hb hr
  have s0 : step P (lone (b.atR a (.code (.scope c) :: k)) cs w) = .next (lone (b.atR a (.code c :: .inScope c :: k)) cs w) := step_lone_go (by simp [stepG, stepG.exec, Frame.atR])
  have h0 : (lone (b.atR a (.code (.scope c) :: k)) cs w).fenced P F := fenced_calm hb hr rfl
  obtain ⟨e, a₁, w₁, hq, harr⟩ := h b (.inScope c :: k) cs hro hb hr
  cases e with
  | normal =>
    have s1 : step P (lone (b.atR a₁ (.inScope c :: k)) cs w₁) = .next (lone (b.atR a₁ k) cs w₁) := step_lone_go (by simp [stepG, stepG.exec, Frame.atR])
    exact ⟨.normal, a₁, w₁, hq, .head h0 s0 (StepsIn.trans harr (.one (fenced_calm hb hr rfl) s1))⟩
  | exit id =>
    have hx : exitTo id (.inScope c :: k) = exitTo id k := by simp [exitTo]
    exact ⟨.exit id, a₁, w₁, hq, fun k' hk => .head h0 s0 (harr.1 k' (by rw [hx]; exact hk)), fun hr' hk => let ⟨k₁, h1, h2⟩ := harr.2 hr' (by rw [hx]; exact hk); ⟨k₁, h1, .head h0 s0 h2⟩⟩
  | goto l => exact hq.elim
  | ret => exact ⟨_, a₁, w₁, hq, .of_steps (.one h0 s0) harr⟩
  | panic ch => exact ⟨_, a₁, w₁, hq, .of_steps (.one h0 s0) harr⟩
  | outgrown => exact ⟨_, a₁, w₁, hq, .of_steps (.one h0 s0) harr⟩

/-- A loop's record laid. -/
theorem inv_loop [Cp] {L : Loop} {env : Env} {tmps : Array Value} (hi : Inv Z D β h w) (he : EnvRep D β w tmps env) (hc : Cp.ok f L.assign ∧ Cp.ok f L.body) (ht : L.tmps = tmps) (hs : L.state = .ready) (hp : L.pending = none) :
    Inv Z D (bAdd β h.length 0 w.heap.size 0) (h ++ [.loop f env L.params.toList L.assign L.body false none]) (w.alloc (.loop L)) ∧ Ext D β w D (bAdd β h.length 0 w.heap.size 0) (w.alloc (.loop L)) := by
  have hn : ∀ e, β h.length e = none := fun e => hi.fresh _ e (Nat.le_refl _)
  have f1 : Frm (fun o => o = h.length) D β w D β (w.alloc (.loop L)) := frm_alloc hi.g _
  have f2 : Frm (fun o => o = h.length) D β (w.alloc (.loop L)) D (bAdd β h.length 0 w.heap.size 0) (w.alloc (.loop L)) := frm_bAdd rfl (hn 0)
  have g1 : GInv Z D β (w.alloc (.loop L)) := hi.g.alloc _ (by simp)
  have g2 := g1.bAdd (o := h.length) (e := 0) (b := w.heap.size) (k := 0) hi.g.size0 (by simp) (fun o' e' k' hb => by have := (hi.g.blt _ _ _ _ hb).2; omega) (fun ds hx => by rw [heap_alloc_new] at hx; cases hx)
  have f := f1.trans f2
  refine ⟨hi.step g2 f (fun o ho => ?_) (fun o x ho hx => ?_) (by simp) (fun o e y ho _ => by subst ho; simp), f.ext⟩
  · by_cases hl : o < h.length
    · rw [List.getElem?_append_left hl]
    · rw [List.getElem?_eq_none (by simp; omega), List.getElem?_eq_none (by omega)]
  · subst ho
    rw [List.getElem?_append_right (Nat.le_refl _)] at hx
    simp at hx
    subst hx
    intro e b k hb
    rcases bAdd_cases hb with ⟨_, rfl, hy⟩ | ⟨hb, _⟩
    · cases hy
      refine ⟨rfl, fun hd => absurd (hi.g.dlt _ hd) (by omega), L, heap_alloc_new _, hc, rfl, rfl, rfl, hp, by simp [hs], ?_⟩
      rw [ht]; exact he.mono f.ext
    · rw [hn] at hb; cases hb

/-- A loop's record put anew. -/
theorem inv_putLoop [Cp] {l b k : Nat} {L L' : Loop} {x : AObj} (hi : Inv Z D β h w) (hb : β l 0 = some (b, k)) (hD : ¬ D b) (hL : w.heap[b]? = some (.loop L)) (hx : ObjOk D β (w.putObj b (.loop L')) l x) :
    Inv Z D β (h.set l x) (w.putObj b (.loop L')) ∧ Ext D β w D β (w.putObj b (.loop L')) := by
  obtain ⟨f, g⟩ := frm_putObj (S := fun o => o = l) hi.g (y := .loop L') rfl hb hD hL (by simp) (by simp) (by simp) (by simp) (fun L _ => ⟨L', rfl⟩)
  refine ⟨hi.step g f (fun o ho => ?_) (fun o y ho hy => ?_) (by simp) (fun o e y ho hy => by simp; exact hi.dom o e y hy), f.ext⟩
  · rw [List.getElem?_set_ne (fun e => ho e.symm)]
  · subst ho
    rw [List.getElem?_set] at hy
    simp at hy
    obtain ⟨_, rfl⟩ := hy
    exact hx

theorem putLoop_ext [Cp] {l b k : Nat} {L L' : Loop} (hi : Inv Z D β h w) (hb : β l 0 = some (b, k)) (hD : ¬ D b) (hL : w.heap[b]? = some (.loop L)) : Ext D β w D β (w.putObj b (.loop L')) :=
  (frm_putObj (S := fun o => o = l) hi.g (y := .loop L') rfl hb hD hL (by simp) (by simp) (by simp) (by simp) (fun L _ => ⟨L', rfl⟩)).1.ext

theorem code_sim [Cp] {ok : List (Nat × Nat) → Array Oper → Bool} {n : Nat} (hcp : ∀ f c, Cp.ok f c ↔ codeOk pol ok f c = true) (hK : KOk P pol K) (hI : IOk P pol I) (hdraw : DrawnOk P pol K I ok) :
    ∀ (c : Code) {bid : Nat} {Z : Base} {M : Nat} {D : Dom} {β : Bet} {h h' : Heap} {w : World} {ro : Option Nat} {env env' : Env} {a : Act} {x : Xit} {Q : Exit → Act → World → Prop},
      aCode P pol K I n f bid c env h = some (x, env', h') → codeOk pol ok f c = true → St pol Z M D β h w ro a env → M ≤ w.heap.size →
      (∀ D' β' w' a', St pol Z M D' β' h' w' ro a' env' → Ext D β w D' β' w' → Q x.toExit a' w') → c.wpIn (FW ro) 0 P Q a w := by
  intro c
  induction c with
  | skip =>
    intro bid Z M D β h h' w ro env env' a x Q hs _ hst _ hn
    simp [aCode] at hs
    obtain ⟨rfl, rfl, rfl⟩ := hs
    exact wpIn_skip (hn D β w a hst (.refl D β w))
  | label l =>
    intro bid Z M D β h h' w ro env env' a x Q hs _ hst _ hn
    simp [aCode] at hs
    obtain ⟨rfl, rfl, rfl⟩ := hs
    exact wpIn_label (hn D β w a hst (.refl D β w))
  | exit id =>
    intro bid Z M D β h h' w ro env env' a x Q hs _ hst _ hn
    simp [aCode] at hs
    obtain ⟨rfl, rfl, rfl⟩ := hs
    exact wpIn_exit (hn D β w a hst (.refl D β w))
  | ret =>
    intro bid Z M D β h h' w ro env env' a x Q hs _ hst _ hn
    simp [aCode] at hs
    obtain ⟨rfl, rfl, rfl⟩ := hs
    exact wpIn_ret (hn D β w a hst (.refl D β w))
  | goto l => intro bid Z M D β h h' w ro env env' a x Q hs; simp [aCode] at hs
  | refuse why => intro bid Z M D β h h' w ro env env' a x Q hs; simp [aCode] at hs
  | region id ops draw =>
    intro bid Z M D β h h' w ro env env' a x Q hs hok hst _ hn
    cases draw with
    | false =>
      simp only [aCode] at hs
      split at hs
      · rename_i env1 h1 ho
        simp at hs
        obtain ⟨rfl, rfl, rfl⟩ := hs
        exact wpIn_region_list (ops_sim hK hI ops.toList ho hst hn)
      · simp at hs
    | true =>
      simp only [aCode] at hs
      split at hs
      · rename_i env1 h1 ts ho
        split at hs
        · rename_i hcr
          simp at hs
          obtain ⟨rfl, rfl, rfl⟩ := hs
          refine wpIn_region_draw fun t => ?_
          obtain ⟨fr, g⟩ := frm_drew (S := fun _ => False) hst.inv.g (w.drawn + 1)
          have hst' : St pol Z M D β h { w with drawn := w.drawn + 1 } ro a env :=
            ⟨hst.inv.step g fr (fun _ _ => rfl) (fun _ _ h => h.elim) (Nat.le_refl _) (fun _ _ _ h => h.elim), hst.env.mono fr.ext, hst.glob.mono fr.ext, hst.marks.mono fr.ext, fun l hl => let ⟨L, hL⟩ := hst.round l hl; fr.ext.loops l L hL⟩
          exact hdraw ho hcr (by simpa [codeOk] using hok) hst' (fun D' β' w' a' st hx => hn D' β' w' a' st (fr.ext.trans hx)) t
        · simp at hs
      · simp at hs
  | seq p q ihp ihq =>
    intro bid Z M D β h h' w ro env env' a x Q hs hok hst hM hn
    simp [codeOk] at hok
    simp only [aCode] at hs
    split at hs
    · rename_i env1 h1 h1s
      refine wpIn_seq (ihp h1s hok.1 hst hM fun D' β' w' a' st1 x1 => ?_)
      exact ihq hs hok.2 st1 (Nat.le_trans hM x1.size) fun D'' β'' w'' a'' st2 x2 => hn D'' β'' w'' a'' st2 (x1.trans x2)
    · rename_i hr
      refine wpIn_seq (ihp hs hok.1 hst hM fun D' β' w' a' st1 x1 => ?_)
      have hq := hn D' β' w' a' st1 x1
      cases x with
      | normal => exact absurd hs (hr _ _)
      | exit id => exact hq
      | ret => exact hq
  | cond c p q ihp ihq =>
    intro bid Z M D β h h' w ro env env' a x Q hs hok hst hM hn
    simp [codeOk] at hok
    simp only [aCode] at hs
    split at hs
    · rename_i t ht
      have hr := hst.rep c
      rw [ht] at hr
      refine wpIn_cond hr.toT.sc_eq.1 ?_
      cases t with
      | true => simp at hs ⊢; exact ihp hs hok.1 hst hM hn
      | false => simp at hs ⊢; exact ihq hs hok.2 hst hM hn
    · simp at hs
  | block id c ih =>
    intro bid Z M D β h h' w ro env env' a x Q hs hok hst hM hn
    simp only [codeOk] at hok
    simp only [aCode] at hs
    split at hs
    · rename_i j env1 h1 h1s
      refine wpIn_block (ih h1s hok hst hM fun D' β' w' a' st1 x1 => ?_)
      simp only [Xit.toExit, Exit.inBlock]
      split at hs
      · rename_i hj
        simp at hs
        obtain ⟨rfl, rfl, rfl⟩ := hs
        rw [if_pos hj]
        exact hn D' β' w' a' st1 x1
      · rename_i hj
        simp at hs
        obtain ⟨rfl, rfl, rfl⟩ := hs
        rw [if_neg hj]
        exact hn D' β' w' a' st1 x1
    · rename_i hr
      refine wpIn_block (ih hs hok hst hM fun D' β' w' a' st1 x1 => ?_)
      have hq := hn D' β' w' a' st1 x1
      cases x with
      | normal => exact hq
      | exit j => exact absurd hs (hr _ _ _)
      | ret => exact hq
  | scope c ih =>
    intro bid Z M D β h h' w ro env env' a x Q hs hok hst hM hn
    simp only [codeOk] at hok
    simp only [aCode] at hs
    refine wpIn_scope (ih hs hok hst hM fun D' β' w' a' st1 x1 => ?_)
    have hq := hn D' β' w' a' st1 x1
    cases x <;> exact hq
  | loop c ih =>
    intro bid Z M D β h h' w ro env env' a x Q hs hok hst hM hn
    simp only [codeOk] at hok
    simp only [aCode] at hs
    refine wpIn_loop_rounds n ?_
    have key : ∀ (m : Nat) {D1 : Dom} {β1 : Bet} {h1 : Heap} {w1 : World} {env1 : Env} {a1 : Act}, iter h.length (pol.live f bid) (aCode P pol K I n f bid c) m env1 h1 = some (x, env', h') → St pol Z M D1 β1 h1 w1 ro a1 env1 → Ext D β w D1 β1 w1 →
        Code.roundsIn (FW ro) 0 P c Q m a1 w1 := by
      intro m
      induction m with
      | zero => intro D1 β1 h1 w1 env1 a1 hs; simp [iter] at hs
      | succ m ihm =>
        intro D1 β1 h1 w1 env1 a1 hs hst1 hx1
        simp only [iter] at hs
        rw [roundsIn_succ]
        split at hs
        · rename_i env2 h2 hb
          refine ih hb hok hst1.tidy (Nat.le_trans hM hx1.size) fun D' β' w' a' st2 x2 => ?_
          split at hs
          · rename_i env3 h3 hsh
            obtain ⟨D2, β2, st3, s1, s2⟩ := st2.shrink hsh
            exact ihm hs st3 (ext_cut (hx1.trans x2) hst.inv.dom s1 s2)
          · simp at hs
        · rename_i hr
          refine ih hs hok hst1.tidy (Nat.le_trans hM hx1.size) fun D' β' w' a' st2 x2 => ?_
          have hq := hn D' β' w' a' st2 (hx1.trans x2)
          cases x with
          | normal => exact absurd hs (hr _ _)
          | exit id => exact hq
          | ret => exact hq
    exact key n hs hst (.refl D β w)
  | rangeFunc g ps assign body _ _ =>
    intro bid Z M D β h h' w ro env env' a x Q hs hok hst hM hn
    simp [codeOk] at hok
    simp only [aCode] at hs
    split at hs
    · rename_i gf args hcal
      split at hs
      · rename_i v2 h2 hcall
        obtain ⟨hcl, hsim⟩ := hI.fn gf args _ v2 h2 hcall
        refine wpIn_rangeFunc fun fn _ => ?_
        -- where the record lies
        have hent : ∃ (w0 : World) (mark : List Deferred) (L : Loop), (Instr.enterLoop fn a.tmps ps assign body (FW ro).round).run P w = .ok (w0.heap.size, mark) (w0.alloc (.loop L)) ∧ Inv Z D β h w0 ∧ Ext D β w D β w0 ∧
            L.tmps = a.tmps ∧ L.state = .ready ∧ L.pending = none ∧ L.params = ps ∧ L.assign = assign ∧ L.body = body ∧
            (∀ D' β' w', Ext D β w0 D' β' w' → Marks M w' (mark ++ a.defers)) := by
          cases hro : ro with
          | none =>
            have f0 : Frm (fun _ => False) D β w D β (w.alloc (.deferred (some []))) := frm_alloc hst.inv.g _
            have i0 : Inv Z D β h (w.alloc (.deferred (some []))) := hst.inv.step (hst.inv.g.alloc _ (by simp)) f0 (fun _ _ => rfl) (fun _ _ h => h.elim) (Nat.le_refl _) (fun _ _ _ h => h.elim)
            refine ⟨w.alloc (.deferred (some [])), [{ target := .collected w.heap.size, args := #[] }], { state := .ready, pending := none, fn, tmps := a.tmps, params := ps, assign, body, defers := w.heap.size }, ?_, i0, f0.ext, rfl, rfl, rfl, rfl, rfl, rfl, ?_⟩
            · rw [World.size_alloc]; exact run_enterLoop_outer _ _ _ _ _
            · intro D' β' w' hx
              obtain ⟨rs, r1, r2, r3⟩ := (hst.marks.mono f0.ext).mono hx
              refine ⟨w.heap.size :: rs, by simp [r1], List.nodup_cons.2 ⟨fun hm => ?_, r2⟩, fun r hr => ?_⟩
              · obtain ⟨rs', q1, _, q3⟩ := hst.marks
                have he : rs = rs' := by
                  have e := r1.symm.trans q1
                  exact (List.map_inj_right (fun x y h => by simpa using h)).1 e
                subst he
                have := lt_of_heap (q3 _ hm).2
                omega
              · rcases List.mem_cons.1 hr with rfl | hr
                · exact ⟨hM, hx.defs _ _ (heap_alloc_new _)⟩
                · exact r3 r hr
          | some l0 =>
            obtain ⟨L0, hL0⟩ := hst.round l0 hro
            refine ⟨w, [], { state := .ready, pending := none, fn, tmps := a.tmps, params := ps, assign, body, defers := L0.defers }, run_enterLoop_inner hL0 _ _ _ _ _, hst.inv, .refl D β w, rfl, rfl, rfl, rfl, rfl, rfl, fun D' β' w' hx => hst.marks.mono hx⟩
        obtain ⟨w0, mark, L, hrun, i0, x0, t1, t2, t3, t4, t5, t6, hmk⟩ := hent
        obtain ⟨i1, x1⟩ := inv_loop (f := f) i0 (tidy_rep (live := pol.live f bid) (hst.env.mono x0)) ⟨by rw [t5]; exact (hcp _ _).2 hok.1, by rw [t6]; exact (hcp _ _).2 hok.2⟩ t1 t2 t3
        rw [t4, t5, t6] at i1
        have x01 := x0.trans x1
        have hrl : RepL D (bAdd β h.length 0 w0.heap.size 0) (w0.alloc (.loop L)) [.func (.yield w0.heap.size) #[] #[]] [.yl h.length] := by
          refine ⟨rfl, fun i v x hv hx => ?_⟩
          cases i with
          | zero => simp at hv hx; subst hv; subst hx; exact .yl _ _ 0 (bAdd_same _ _ _ _ _)
          | succ i => simp at hv
        obtain ⟨d, vs', hd1, hrl', hinv⟩ := callee_run (P := P) hcal ((hst.rep g).mono x01) hrl
        have hres : (resolve a.eval (rangeCall g w0.heap.size) 0).run P (w0.alloc (.loop L)) = .ok d (w0.alloc (.loop L)) := by
          have e : (#[Operand.const (.func (.yield w0.heap.size) #[] #[])].map a.eval) = [Value.func (.yield w0.heap.size) #[] #[]].toArray := by simp [Act.eval]
          simp only [resolve, rangeCall]
          rw [e]
          exact hd1 _
        refine ⟨w0.heap.size, mark, w0.alloc (.loop L), d, w0.alloc (.loop L), gf, vs'.toArray, w0.alloc (.loop L), hrun, hres, fun _ _ => trivial, (hinv _).trans (run_callFunc hcl _ _), fun hd => by simp [FW, Fence.wide] at hd, ?_⟩
        refine callsIn_FW (CallsIn.mono (hsim Z D _ _ vs' i1 (hst.glob.mono x01) hrl') fun e w3 hp => ?_)
        obtain ⟨v', rfl, D', β', i3, g3, x3, _⟩ := hp
        split at hs <;> try (simp at hs)
        all_goals
          rename_i env5 h5 hlo hsh
          obtain ⟨rfl, rfl, rfl⟩ := hs
        all_goals
          unfold loopOf at hlo
          split at hlo <;> try (simp at hlo)
        all_goals
          subst hlo
          rename_i f' env'' ps' as' bd' hget
          have hb3 : β' h.length 0 = some (w0.heap.size, 0) := x3.bet _ _ _ (bAdd_same _ _ _ _ _)
          obtain ⟨_, hD3, L3, hL3, _, _, _, _, hpend, hstate, _⟩ := i3.obj _ _ hget 0 _ _ hb3
          have hend := run_endLoop (P := P) hL3 (by rw [hstate]; simp)
          obtain ⟨i4, x4⟩ := inv_putLoop (x := .gone) (L' := { L3 with state := .exhausted }) i3 hb3 hD3 hL3 trivial
          have xx := (x01.trans x3).trans x4
          have xm := (x1.trans x3).trans x4
          have st4 : St pol Z M D' β' (h2.set h.length .gone) (w3.putObj w0.heap.size (.loop { L3 with state := .exhausted })) ro { a with defers := mark ++ a.defers } env :=
            ⟨i4, hst.env.mono xx, g3.mono x4, hmk _ _ _ xm, fun l hl => let ⟨L, hL⟩ := hst.round l hl; xx.loops l L hL⟩
          obtain ⟨D5, β5, st5, s1, s2⟩ := st4.shrink hsh
          have hq := hn D5 β5 _ _ st5 (ext_cut xx hst.inv.dom s1 s2)
          have hend := hend.trans (congrArg (fun p => Result.ok p _) hpend)
        · exact ⟨none, _, hend, hq⟩
        · exact ⟨some .ret, _, hend, wpIn_ret hq⟩
        · exact ⟨some (.exit _), _, hend, wpIn_exit hq⟩
      · simp at hs
    · simp at hs

end Go.Abs
