/- The walk along a drawn order, and what a program's check then gives. -/
import Derived.Test.YtkamfflnfnjbeaaAbsDraw
set_option linter.unusedSimpArgs false
set_option linter.unusedVariables false
namespace Go.Abs
open Go

variable {P : Program} {pol : Pol} {K : Oracle} {I : Inl} {f : FuncId} {ops : Array Oper} {crit : List (Nat × Nat)} {E : Nat → Env} {H : Nat → Heap} {τ : Nat → Option (List Nat)} {S : Nat → Prop}
  {Z : Base} {D D' : Dom} {β β' : Bet} {w w' : World} {ro : Option Nat} {M : Nat}

theorem Last.unique {p : Nat → Prop} {k k' : Nat} (h : Last S p k) (h' : Last S p k') : k = k' := by
  have key : ∀ {k k' : Nat}, Last S p k → Last S p k' → k ≤ k' := by
    intro k k' h h'
    rcases h.2 with e | ⟨i, e, hs, hp⟩
    · omega
    · have := h'.1 i hs hp; omega
  exact Nat.le_antisymm (key h h') (key h' h)

/-- One more has run, and it does not do p. -/
theorem Last.back {p : Nat → Prop} {j k : Nat} (hn : ¬ p j) (h : Last (fun i => S i ∨ i = j) p k) : Last S p k := by
  refine ⟨fun i hs hp => h.1 i (.inl hs) hp, ?_⟩
  rcases h.2 with e | ⟨i, e, hs, hp⟩
  · exact .inl e
  · rcases hs with hs | rfl
    · exact .inr ⟨i, e, hs, hp⟩
    · exact absurd hp hn

/-- One more has run that does p, and nothing behind it has. -/
theorem Last.now {p : Nat → Prop} {j k : Nat} (hp : p j) (ho : ∀ i, S i → p i → i < j) (h : Last (fun i => S i ∨ i = j) p k) : k = j + 1 := by
  have h1 := h.1 j (.inr rfl) hp
  rcases h.2 with e | ⟨i, e, hs, hpi⟩
  · omega
  · rcases hs with hs | rfl
    · have := ho i hs hpi; omega
    · exact e

/-- Where the machine stands when S has run. -/
structure Mid [Cp] (pol : Pol) (Z : Base) (M : Nat) (ops : Array Oper) (E : Nat → Env) (H : Nat → Heap) (τ : Nat → Option (List Nat)) (S : Nat → Prop) (D : Dom) (β : Bet) (w : World) (ro : Option Nat) (a : Act) : Prop where
  g : GInv Z D β w
  glob : GlobOk pol D w
  marks : Marks M w a.defers
  round : ∀ l, ro = some l → ∃ L, w.heap[l]? = some (.loop L)
  size : a.tmps.size = (E 0).length
  env : ∀ (t : Nat) v x k, Last S (fun i => dstAt ops i = some t) k → a.tmps[t]? = some v → (E k)[t]? = some x → Rep D β w v x
  obj : ∀ (q : Nat) x k, Real H S q → Last S (fun i => Chg ops τ i q) k → (H k)[q]? = some x → ObjOk D β w q x
  dom : ∀ q e y, β q e = some y → Real H S q

/-- The environment as one operation sees it. -/
def maskE (ops : Array Oper) (o : Oper) (env : Env) : Env := env.mapIdx fun t x => if (namesOf ops o).contains t then x else .dead

theorem maskE_get {o : Oper} {env : Env} {t : Nat} (ht : t ∈ namesOf ops o) : (maskE ops o env)[t]? = env[t]? := by
  simp [maskE, List.getElem?_mapIdx, ht]

theorem maskE_eval {o : Oper} {env : Env} {x : Operand} (hx : x ∈ o.op.operands) : evalOperand pol (maskE ops o env) x = evalOperand pol env x := by
  cases x with
  | tmp t =>
    have ht : t ∈ namesOf ops o := by
      simp only [namesOf, List.mem_append, List.mem_filterMap]
      exact .inl (.inr ⟨.tmp t, by simpa using hx, rfl⟩)
    simp only [evalOperand, List.getD_eq_getElem?_getD, maskE_get ht]
  | const v => rfl
  | global g => rfl
  | func g => rfl

theorem maskE_guard {o : Oper} {env : Env} : guardOk ops.toList (maskE ops o env) o.guard = guardOk ops.toList env o.guard := by
  cases hg : o.guard with
  | none => rfl
  | some jw =>
    obtain ⟨g, want⟩ := jw
    simp only [guardOk, Array.getElem?_toList]
    cases ho : ops[g]? with
    | none => rfl
    | some o' =>
      simp only
      cases hd : o'.dst with
      | none => rfl
      | some d =>
        simp only
        have ht : d ∈ namesOf ops o := by
          simp only [namesOf, List.mem_append, hg]
          exact .inr (by simp [dstAt, ho, hd])
        simp only [List.getD_eq_getElem?_getD, maskE_get ht]

theorem put_get_ne {env : Env} {d : Option Tmp} {x : AV} {t : Nat} (h : d ≠ some t) : (put env d x)[t]? = env[t]? := by
  cases d with
  | none => rfl
  | some d => exact List.getElem?_set_ne (fun e => h (by rw [e]))

section
variable [Cp] {j : Nat} {o : Oper} {a : Act} (G : Ground P pol K I f ops crit E H τ) (A : At ops S j o) (m : Mid pol Z M ops E H τ S D β w ro a)
include G A m

theorem Mid.envRep : EnvRep D β w a.tmps (maskE ops o (E j)) := by
  have hj := lt_of_ops A.ho
  refine ⟨by simp [maskE, m.size, G.tr.envLen j (by omega)], fun t v x hv hx => ?_⟩
  by_cases ht : t ∈ namesOf ops o
  · rw [maskE_get ht] at hx
    obtain ⟨k, hk⟩ := Last.exists A.lt (fun i => dstAt ops i = some t)
    rw [A.env G ht hk] at hx
    exact m.env t v x k hk hv hx
  · simp only [maskE, List.getElem?_mapIdx, Option.map_eq_some_iff] at hx
    obtain ⟨y, _, rfl⟩ := hx
    simp [ht]
    exact .dead v

theorem Mid.rep (x : Operand) : Rep D β w (a.eval x) (evalOperand pol (maskE ops o (E j)) x) := eval_rep (m.envRep G A) m.glob x

theorem Mid.objAt {q : Nat} {x : AObj} (ht : Tch τ j q) (hx : (H j)[q]? = some x) : ObjOk D β w q x := by
  obtain ⟨k, hk⟩ := Last.exists A.lt (fun i => Chg ops τ i q)
  have hq : q < (H j).length := (List.getElem?_eq_some_iff.1 hx).1
  rw [A.heap G ht hk] at hx
  exact m.obj q x k (A.real G ht hq) hk hx

/-- On: j has run. -/
theorem Mid.next {v : Value} {x : AV} (hx : Ext D β w D' β' w') (hg : GInv Z D' β' w') (he : E (j + 1) = put (E j) o.dst x) (hr : Rep D' β' w' v x)
    (hold : ∀ (q : Nat) y k, Real H S q → ¬ Chg ops τ j q → Last S (fun i => Chg ops τ i q) k → (H k)[q]? = some y → ObjOk D β w q y → ObjOk D' β' w' q y)
    (hnew : ∀ (q : Nat) y, Chg ops τ j q → (H (j + 1))[q]? = some y → ObjOk D' β' w' q y)
    (hdom : ∀ q e y, β' q e = some y → Real H (fun i => S i ∨ i = j) q) : Mid pol Z M ops E H τ (fun i => S i ∨ i = j) D' β' w' ro (a.put o.dst v) where
  g := hg
  glob := m.glob.mono hx
  marks := by rw [put_defers]; exact m.marks.mono hx
  round l hl := let ⟨L, hL⟩ := m.round l hl; hx.loops l L hL
  size := by
    rw [← m.size]
    cases o.dst <;> simp [Act.put]
  env t u y k hk hu hy := by
    by_cases hd : dstAt ops j = some t
    · have hkj : k = j + 1 := by
        refine Last.now (p := fun i => dstAt ops i = some t) hd (fun i hs hp => ?_) hk
        have ht : t ∈ namesOf ops o := by
          simp only [dstAt, A.ho, Option.bind_some] at hd
          simp [namesOf, hd]
        exact (A.writer G hp ht (fun e => A.no (e ▸ hs))).1 hs
      subst hkj
      simp only [dstAt, A.ho, Option.bind_some] at hd
      rw [he, hd] at hy
      rw [hd] at hu
      simp only [put, List.getElem?_set_self'] at hy
      simp only [Act.put, Array.getElem?_setIfInBounds_self] at hu
      split at hu
      · cases hu
        cases hy' : (E j)[t]? with
        | none => rw [hy'] at hy; simp at hy
        | some z => rw [hy'] at hy; simp at hy; subst hy; exact hr
      · cases hu
    · have hk' := Last.back hd hk
      have hd' : o.dst ≠ some t := by simpa [dstAt, A.ho] using hd
      have hu' : a.tmps[t]? = some u := by
        cases hdst : o.dst with
        | none => rw [hdst] at hu; exact hu
        | some d =>
          rw [hdst] at hu hd'
          simp only [Act.put] at hu
          rwa [Array.getElem?_setIfInBounds_ne (fun e => hd' (by rw [e]))] at hu
      exact (m.env t u y k hk' hu' hy).mono hx
  obj q y k hq hk hy := by
    by_cases hc : Chg ops τ j q
    · have hkj : k = j + 1 := by
        refine Last.now (p := fun i => Chg ops τ i q) hc (fun i hs hp => ?_) hk
        exact (A.order G hp hc.tch (fun e => A.no (e ▸ hs))).1 hs
      subst hkj
      exact hnew q y hc hy
    · have hq' : Real H S q := by
        rcases hq with h | ⟨i, hs, h1, h2⟩
        · exact .inl h
        · rcases hs with hs | rfl
          · exact .inr ⟨i, hs, h1, h2⟩
          · exact absurd (G.tr.news A.ho h1 h2) hc
      have hk' := Last.back (p := fun i => Chg ops τ i q) hc hk
      exact hold q y k hq' hc hk' hy (m.obj q y k hq' hk' hy)
  dom := hdom

end

theorem Real.mono {S' : Nat → Prop} {q : Nat} (hs : ∀ i, S i → S' i) (h : Real H S q) : Real H S' q := by
  rcases h with h | ⟨i, h1, h2⟩
  · exact .inl h
  · exact .inr ⟨i, hs i h1, h2⟩

theorem ops_draw [Cp] (hK : KOk P pol K) (hI : IOk P pol I) (G : Ground P pol K I f ops crit E H τ) {Q : Exit → Act → World → Prop} {D0 : Dom} {β0 : Bet} {w0 : World}
    (hn : ∀ D' β' w' a', St pol Z M D' β' (H ops.size) w' ro a' (E ops.size) → Ext D0 β0 w0 D' β' w' → Q .normal a' w') :
    ∀ (l : List Nat) (S : Nat → Prop) (D : Dom) (β : Bet) (w : World) (a : Act), Valid ops S l → (∀ i, S i → i < ops.size) → (∀ i k, S k → Bef ops i k → S i) → Mid pol Z M ops E H τ S D β w ro a → Ext D0 β0 w0 D β w →
      wpOpsIn (FW ro) 0 P ops Q l a w := by
  intro l
  induction l with
  | nil =>
    intro S D β w a hv hlt hdc m hx
    refine hn D β w a ⟨⟨m.g, fun q x hq => ?_, fun q e y hy => ?_⟩, ⟨by rw [m.size, G.tr.envLen _ (Nat.le_refl _)], fun t v x hv' hx' => ?_⟩, m.glob, m.marks, m.round⟩ hx
    · obtain ⟨k, hk⟩ := Last.exists hlt (fun i => Chg ops τ i q)
      have hkl : k ≤ ops.size := by
        rcases hk.2 with e | ⟨i, e, hs, _⟩
        · omega
        · have := hlt i hs; omega
      have hq' : (H k)[q]? = some x := by
        rw [← hq]
        refine (G.tr.heapSame hkl (Nat.le_refl _) fun i h1 h2 hc => ?_).symm
        have := hk.1 i (hv i h2) hc
        omega
      refine m.obj q x k ?_ hk hq'
      rcases exists_new (List.getElem?_eq_some_iff.1 hq).1 with h | ⟨i, h1, h2⟩
      · exact .inl h
      · exact .inr ⟨i, hv i h1, h2⟩
    · rcases m.dom q e y hy with h | ⟨i, hs, h1, h2⟩
      · exact Nat.lt_of_lt_of_le h (G.tr.len 0 _ (by omega) (Nat.le_refl _))
      · exact Nat.lt_of_lt_of_le h2 (G.tr.len _ _ (hlt i hs) (Nat.le_refl _))
    · obtain ⟨k, hk⟩ := Last.exists hlt (fun i => dstAt ops i = some t)
      have hkl : k ≤ ops.size := by
        rcases hk.2 with e | ⟨i, e, hs, _⟩
        · omega
        · have := hlt i hs; omega
      refine m.env t v x k hk hv' ?_
      rw [← hx']
      refine (G.tr.envSame hkl (Nat.le_refl _) fun i h1 h2 hc => ?_).symm
      have := hk.1 i (hv i h2) hc
      omega
  | cons j l ih =>
    intro S D β w a hv hlt hdc m hx
    obtain ⟨hnj, ⟨o, ho, hdep⟩, hv'⟩ := hv
    have A : At ops S j o := ⟨hlt, ho, hnj, hdc, fun i hb => by
      cases hb with
      | edge _ o' e ho' he hbd => rw [ho] at ho'; cases ho'; exact hdep e he hbd
      | trans _ _ o' e ho' he hbd h => rw [ho] at ho'; cases ho'; exact hdc _ _ (hdep e he hbd) h⟩
    have hlt' : ∀ i, (S i ∨ i = j) → i < ops.size := by
      rintro i (h | rfl)
      · exact hlt i h
      · exact lt_of_ops ho
    have hdc' : ∀ i k, (S k ∨ k = j) → Bef ops i k → (S i ∨ i = j) := by
      rintro i k (h | rfl) hb
      · exact .inl (hdc i k h hb)
      · exact .inl (A.dep i hb)
    have go : ∀ {D' : Dom} {β' : Bet} {w' : World} {a' : Act}, Mid pol Z M ops E H τ (fun i => S i ∨ i = j) D' β' w' ro a' → Ext D β w D' β' w' → wpOpsIn (FW ro) 0 P ops Q l a' w' :=
      fun m' x' => ih _ _ _ _ _ hv' hlt' hdc' m' (hx.trans x')
    obtain ⟨b, v, hgd, hE, hlen, hcase⟩ := G.tr.step j o ho
    have hE' : EnvRep D β w a.tmps (maskE ops o (E j)) := m.envRep G A
    have hwant := guard_sim (ops := ops) (o := o) rfl (by rw [maskE_guard]; exact hgd) hE'
    have hρ := m.rep G A
    have hcg : ∀ h, aOp P pol f (evalOperand pol (maskE ops o (E j))) h o = aOp P pol f (evalOperand pol (E j)) h o := fun h => aOp_congr fun x hx => maskE_eval hx
    have htg : touch0 pol f (evalOperand pol (maskE ops o (E j))) o = touch0 pol f (evalOperand pol (E j)) o := touch0_congr fun x hx => maskE_eval hx
    simp only [wpOpsIn, ho, hwant]
    -- nothing is changed
    have quiet : ∀ {D' : Dom} {β' : Bet} {w' : World} {v' : Value}, Frm (fun _ => False) D β w D' β' w' → GInv Z D' β' w' → (∀ q, ¬ Chg ops τ j q) → Rep D' β' w' v' v → wpOpsIn (FW ro) 0 P ops Q l (a.put o.dst v') w' := by
      intro D' β' w' v' hf hg hnc hr
      refine go (m.next G A hf.ext hg hE hr (fun q y _ _ _ _ _ hy => hy.frame hf (fun h => h)) (fun q y hc => absurd hc (hnc q)) fun q e y hy => ?_) hf.ext
      rw [hf.bt q e (fun h => h)] at hy
      exact (m.dom q e y hy).mono fun i h => .inl h
    rcases hcase with ⟨rfl, hk, hτ⟩ | ⟨rfl, rfl, hH, hτ⟩
    · simp only [if_true]
      cases hk with
      | pure g args ts r ha ht0 hts hr hvv hh =>
        subst hvv
        refine pure_call hK ((hcg _).trans ha) hts hr m.g.dlt m.glob hρ fun v' w' hkw hv' => ?_
        obtain ⟨hf, hg⟩ := frm_kept (S := fun _ => False) hkw m.g
        refine quiet hf hg (fun q hc => ?_) (.t _ _ hv')
        rcases hc.tch with h | ⟨l', h, hm⟩
        · rw [hτ, ht0] at h; simp [touchN] at h
        · rw [hτ, ht0, hh] at h; simp [touchN] at h; subst h; cases hm
      | plain r ha hvv =>
        obtain ⟨tl, q1, q2, q3, _⟩ := aOp_frame ha hvv
        have hτ' : τ j = some (tl ++ List.range' (H j).length ((H (j + 1)).length - (H j).length)) := by rw [hτ, q1]; rfl
        have tch : ∀ q, q ∈ tl → Tch τ j q := fun q hq => .inr ⟨_, hτ', by simp [hq]⟩
        have hgood := op_good (ρr := a.eval) (Z := Z) (D := D) (β := β) (w := w) ((hcg _).trans ha) hvv m.g hρ (fun q e h1 h2 => by
          cases hb : β q e with
          | none => rfl
          | some y => exact absurd (m.dom q e y hb) (A.fresh G h1 h2)) (fun q y hq hy => by
          rw [htg, q1] at hq
          exact m.objAt G A (tch q hq) hy)
        rw [htg, q1] at hgood
        obtain ⟨hd, hsame, hl⟩ := hgood.parts
        refine wpIn_done (aOp_noDefer ha) hd fun v' w' D' β' hr hf hg hob hdm => ?_
        simp only [Option.getD_some] at hf hob hsame
        refine go (m.next G A hf.ext hg hE hr (fun q y k hq hc hk hyk hy => ?_) (fun q y hc hy => ?_) fun q e y hy => ?_) hf.ext
        · by_cases hs : stepS tl (H j) (H (j + 1)) q
          · -- touched, not changed
            have hqq : (kindOf o.op).quiet = true := by
              cases hqt : (kindOf o.op).quiet with
              | true => rfl
              | false =>
                refine absurd ⟨o, ho, hqt, .inr ⟨_, hτ', ?_⟩⟩ hc
                rcases hs with h | ⟨h1, h2⟩
                · simp [h]
                · simp [List.mem_range'_1]; omega
            have hh := q3 hqq
            have hq' : (H j)[q]? = some y := by
              rcases hs with h | ⟨h1, h2⟩
              · rw [A.heap G (tch q h) hk]; exact hyk
              · rw [hh] at h2; omega
            exact hob q y hs (by rw [hh]; exact hq')
          · exact hy.frame hf hs
        · refine hob q y ?_ hy
          rcases hc.tch with h | ⟨l', h, hm⟩
          · rw [hτ'] at h; cases h
          · rw [hτ'] at h
            cases h
            simp [List.mem_range'_1] at hm
            rcases hm with hm | hm
            · exact .inl hm
            · exact .inr ⟨hm.1, by omega⟩
        · by_cases hs : stepS tl (H j) (H (j + 1)) q
          · rcases hs with h | ⟨h1, h2⟩
            · rcases hdm q e y hy with ⟨e', y', hy'⟩ | h'
              · exact (m.dom q e' y' hy').mono fun i h => .inl h
              · by_cases hql : q < (H j).length
                · exact (A.real G (tch q h) hql).mono fun i h => .inl h
                · exact .inr ⟨j, .inr rfl, by omega, h'⟩
            · exact .inr ⟨j, .inr rfl, h1, h2⟩
          · rw [hf.bt q e hs] at hy
            exact (m.dom q e y hy).mono fun i h => .inl h
      | full g args ha ht0 hc =>
        have hτ' : τ j = none := by rw [hτ, ht0]; rfl
        have tch : ∀ q, Tch τ j q := fun q => .inl hτ'
        obtain ⟨c, x, hop, hcal, _⟩ := aOp_call ha
        have chg : ∀ q, Chg ops τ j q := fun q => ⟨o, ho, by simp [kindOf, hop, hcal, Kind.quiet], .inl hτ'⟩
        have hinv : Inv Z D β (H j) w := ⟨m.g, fun q y hy => m.objAt G A (tch q) hy, fun q e y hy => by
          rcases m.dom q e y hy with h | ⟨i, hs, h1, h2⟩
          · exact Nat.lt_of_lt_of_le h (G.tr.len 0 _ (by omega) (by have := lt_of_ops ho; omega))
          · have hi := hlt i hs
            have hcg := G.tr.news (o := ops[i]) (by simp [hi]) h1 h2
            have hij := (A.order G hcg (tch q) (fun e => hnj (e ▸ hs))).1 hs
            exact Nat.lt_of_lt_of_le h2 (G.tr.len _ _ (by omega) (by have := lt_of_ops ho; omega))⟩
        refine full_call hK hI ((hcg _).trans ha) hc hinv m.glob hρ fun v' w' D' β' hr hi' hx' => ?_
        refine go (m.next G A hx' hi'.g hE hr (fun q y _ _ hnc => absurd (chg q) hnc) (fun q y _ hy => hi'.obj q y hy) fun q e y hy => ?_) hx'
        rcases exists_new (hi'.dom q e y hy) with h | ⟨i, h1, h2, h3⟩
        · exact .inl h
        · by_cases hij : i = j
          · exact .inr ⟨i, .inr hij, h2, h3⟩
          · have hi : i < ops.size := by have := lt_of_ops ho; omega
            have hcg := G.tr.news (o := ops[i]) (by simp [hi]) h2 h3
            exact .inr ⟨i, .inl ((A.order G hcg (tch q) hij).2 (by omega)), h2, h3⟩
    · simp only [Bool.false_eq_true, if_false]
      refine ⟨fun _ _ => trivial, ?_⟩
      refine quiet (.refl D β w) m.g (fun q hc => ?_) undef_rep
      rcases hc.tch with h | ⟨l', h, hm⟩
      · rw [hτ] at h; cases h
      · rw [hτ] at h; cases h; cases hm

theorem drawn_ok [Cp] (hmix : P.follows .mixedOrders = true) (hK : KOk P pol K) (hI : IOk P pol I) : DrawnOk P pol K I regionOk := by
  intro f id ops Z M D β h h' w ro env env' a ts Q hs hc hok hst hn t
  obtain ⟨E, H, rfl, rfl, rfl, rfl, tr⟩ := trace_ops hs
  have hreg := regionOk_ok hok
  rw [hmix]
  have G : Ground P pol K I f ops (pol.crit f id) E H (fun j => ts.getD j none) := ⟨tr, hreg, fun i j hij => by
    have := List.all_eq_true.1 hc (i, j) hij
    exact this⟩
  refine ops_draw hK hI G hn _ (fun _ => False) D β w a (schedule_valid hreg.edges t) (fun _ h => h.elim) (fun _ _ h => h.elim) ?_ (.refl D β w)
  have z : ∀ {p : Nat → Prop} {k : Nat}, Last (fun _ => False) p k → k = 0 := by
    intro p k h
    rcases h.2 with e | ⟨_, _, h, _⟩
    · exact e
    · exact h.elim
  exact ⟨hst.inv.g, hst.glob, hst.marks, hst.round, hst.env.1, fun t v x k hk hv hx => hst.env.2 t v x hv (by rw [z hk] at hx; exact hx), fun q x k _ hk hx => hst.inv.obj q x (by rw [z hk] at hx; exact hx), fun q e y hy => .inl (hst.inv.dom q e y hy)⟩

end Go.Abs
