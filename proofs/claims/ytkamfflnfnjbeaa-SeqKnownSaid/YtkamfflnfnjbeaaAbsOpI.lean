/- Maps. -/
import Derived.Test.YtkamfflnfnjbeaaAbsOpH
set_option linter.unusedSimpArgs false
set_option linter.unusedVariables false
namespace Go.Abs
open Go

variable {P : Program} {Z : Base} {D : Dom} {β : Bet} {w : World} {h h' : Heap}

theorem keyOk_run : ∀ (d : Nat) (t : TypeId) (x : T) (v : Value) (empty : Bool), keyOk P d t x = true → RepT D w v x → ∀ d', d ≤ d' → (Instr.checkKey empty d' t v).run P w = .ok () w := by
  intro d
  induction d with
  | zero => intro t x v empty h; simp [keyOk] at h
  | succ d ih =>
    intro t x v empty h hx d' hd
    obtain ⟨d', rfl⟩ : ∃ n, d' = n + 1 := ⟨d' - 1, by omega⟩
    have hd' : d ≤ d' := by omega
    simp only [keyOk] at h
    split at h
    · rename_i ht
      simp only [Instr.checkKey, Sem.run_bind, run_underlying ht, Result.andThen]
      cases v <;> rfl
    · rename_i ht
      simp only [Instr.checkKey, Sem.run_bind, run_underlying ht, Result.andThen]
      cases v <;> rfl
    · rename_i ht
      simp only [Instr.checkKey, Sem.run_bind, run_underlying ht, Result.andThen]
      cases v <;> rfl
    · rename_i fs xs ht
      cases hx with
      | agg cx _ hlx hrx =>
        simp only [Instr.checkKey, Sem.run_bind, run_underlying ht, Result.andThen]
        rw [← Array.forIn_toList]
        generalize fs.toList = fl at h
        clear ht
        induction fl with
        | nil => simp
        | cons f r ihf =>
          simp only [keyFields, Bool.and_eq_true] at h
          obtain ⟨h1, h2⟩ := h
          have ih2 := ihf h2
          simp only [List.forIn_cons, Sem.run_bind]
          by_cases hn : f.name = "_"
          · simp only [hn, ne_eq, not_true_eq_false, if_false, Sem.run_pure, Result.andThen]
            exact ih2
          · rw [if_neg hn] at h1
            split at h1
            · rename_i px hpx
              obtain ⟨v1, r1, q1⟩ := run_partT (P := P) hpx hlx hrx
              have he := ih _ _ _ empty h1 q1 d' hd'
              simp only [ne_eq, hn, not_false_eq_true, if_true, Sem.run_bind, r1, Result.andThen, he, Sem.run_pure]
              exact ih2
            · simp at h1
    · simp at h

/-- A map's entries in memory and in the evaluator: the same keys. -/
def KeysEq (mes : List MapEntry) (es : List (Value × AV)) : Prop := mes.map (·.key) = es.map (·.1)

theorem KeysEq.cons {m : MapEntry} {mes : List MapEntry} {e : Value × AV} {es : List (Value × AV)} (h : KeysEq (m :: mes) (e :: es)) : m.key = e.1 ∧ KeysEq mes es := by
  simpa [KeysEq] using h

/-- Where the key is found. -/
def Found (mes : List MapEntry) (i0 : Nat) (k : Value) : Option Nat → Option (Nat × Value) → Prop
  | none, none => True
  | some i, some (j, v) => i = j ∧ i0 ≤ i ∧ ∃ m, mes[i - i0]? = some m ∧ m.val = v ∧ Instr.sameBits 10000 m.key k = true
  | _, _ => False

theorem Found.cons {mes : List MapEntry} {i0 : Nat} {k : Value} {r : Option Nat} {q : Option (Nat × Value)} (m : MapEntry) (h : Found mes (i0 + 1) k r q) : Found (m :: mes) i0 k r q := by
  cases r with
  | none => cases q with
    | none => trivial
    | some p => exact h.elim
  | some i => cases q with
    | none => exact h.elim
    | some p =>
      obtain ⟨j, v⟩ := p
      obtain ⟨h1, h2, m', h3, h4, h5⟩ := h
      refine ⟨h1, by omega, m', ?_, h4, h5⟩
      have : i - i0 = (i - (i0 + 1)) + 1 := by omega
      rw [this]; simpa using h3

theorem findAsking_run {kt : TypeId} {k : Value} (hk : okVal k = true) : ∀ (es : List (Value × AV)) (mes : List MapEntry) (i0 : Nat) (r : Option Nat), KeysEq mes es → findE P kt k es i0 = some r →
    ∃ q, (Instr.findAsking kt k mes i0).run P w = .ok q w ∧ Found mes i0 k r q := by
  intro es
  induction es with
  | nil =>
    intro mes i0 r hk' hf
    cases mes with
    | nil => simp [findE] at hf; subst hf; exact ⟨none, rfl, trivial⟩
    | cons m mes => simp [KeysEq] at hk'
  | cons e es ih =>
    intro mes i0 r hk' hf
    cases mes with
    | nil => simp [KeysEq] at hk'
    | cons m mes =>
      obtain ⟨h1, h2⟩ := hk'.cons
      obtain ⟨k', y⟩ := e
      simp only at h1
      simp only [findE] at hf
      by_cases hok : okVal k' = true
      · rw [if_pos hok] at hf
        have heq : ∀ b, eqIn P 20 kt (ofVal k) (ofVal k') = some b → (Op.equal kt k m.key).run P w = .ok b w := by
          intro b hb
          rw [h1]
          exact eqIn_run (D := fun _ => True) 20 kt _ _ b k k' hb (okVal_rep hk) (okVal_rep hok) _ (by decide)
        split at hf
        · rename_i hb
          by_cases hsb : Instr.sameBits 10000 k' k = true
          · simp [hsb] at hf
            subst hf
            refine ⟨some (i0, m.val), ?_, rfl, Nat.le_refl _, m, by simp, rfl, by rw [h1]; exact hsb⟩
            simp [Instr.findAsking, heq true hb, Result.andThen]
          · simp [hsb] at hf
        · rename_i hb
          obtain ⟨q, g1, g2⟩ := ih mes (i0 + 1) r h2 hf
          exact ⟨q, by simp [Instr.findAsking, heq false hb, Result.andThen, g1], g2.cons m⟩
        · simp at hf
      · simp [hok] at hf

theorem findKey_run {kt : TypeId} {k : Value} {d : TypeDesc} (hk : okVal k = true) (hd : typ P kt = some d) {es : List (Value × AV)} {mes : List MapEntry} {r : Option Nat} (hke : KeysEq mes es) (hf : findE P kt k es 0 = some r) :
    ∃ q, (Instr.findKey kt k mes).run P w = .ok q w ∧ Found mes 0 k r q := by
  cases hn : Instr.findNow d k mes 0 with
  | none =>
    obtain ⟨q, g1, g2⟩ := findAsking_run (w := w) hk es mes 0 r hke hf
    exact ⟨q, by simp [Instr.findKey, run_underlying hd, Result.andThen, hn, g1], g2⟩
  | some q =>
    refine ⟨q, by simp [Instr.findKey, run_underlying hd, Result.andThen, hn], ?_⟩
    -- what the short way finds is what the long way would find
    have key : ∀ (es : List (Value × AV)) (mes : List MapEntry) (i0 : Nat) (r : Option Nat) (q : Option (Nat × Value)), KeysEq mes es → findE P kt k es i0 = some r → Instr.findNow d k mes i0 = some q → Found mes i0 k r q := by
      intro es
      induction es with
      | nil =>
        intro mes i0 r q hke hf hn
        cases mes with
        | nil => simp [findE] at hf; simp [Instr.findNow] at hn; subst hf; subst hn; trivial
        | cons m mes => simp [KeysEq] at hke
      | cons e es ih =>
        intro mes i0 r q hke hf hn
        cases mes with
        | nil => simp [KeysEq] at hke
        | cons m mes =>
          obtain ⟨h1, h2⟩ := hke.cons
          obtain ⟨k', y⟩ := e
          simp only at h1
          simp only [findE] at hf
          by_cases hok : okVal k' = true
          · rw [if_pos hok] at hf
            simp only [Instr.findNow] at hn
            have same : ∀ b, Instr.sameNow d k m.key = some b → ∀ b', eqIn P 20 kt (ofVal k) (ofVal k') = some b' → b = b' := by
              intro b hb b' hb'
              rw [h1] at hb
              unfold Instr.sameNow at hb
              split at hb
              · simp only [ofVal, eqIn, hd] at hb'
                split at hb
                · rename_i hjj
                  rw [if_pos hjj] at hb'
                  rw [← Option.some.inj hb, ← Option.some.inj hb']
                · simp at hb
              · simp only [ofVal, eqIn, hd] at hb'
                simp at hb hb'; rw [← hb, ← hb']
              · simp only [ofVal, eqIn, hd] at hb'
                simp at hb hb'; rw [← hb, ← hb']
              · simp at hb
            split at hn
            · rename_i hb
              simp at hn
              subst hn
              split at hf
              · by_cases hsb : Instr.sameBits 10000 k' k = true
                · simp [hsb] at hf
                  subst hf
                  exact ⟨rfl, Nat.le_refl _, m, by simp, rfl, by rw [h1]; exact hsb⟩
                · simp [hsb] at hf
              · rename_i hb'
                have := same _ hb _ hb'
                simp at this
              · simp at hf
            · rename_i hb
              split at hf
              · rename_i hb'
                have := same _ hb _ hb'
                simp at this
              · exact (ih mes (i0 + 1) r q h2 hf hn).cons m
              · simp at hf
            · simp at hn
          · simp [hok] at hf
    exact key es mes 0 r q hke hf hn

theorem keysEq_of {mes : Array MapEntry} {es : List (Value × AV)} (hl : mes.size = es.length) (hk : ∀ (i : Nat) m kv, mes[i]? = some m → es[i]? = some kv → m.key = kv.1 ∧ Rep D β w m.val kv.2) : KeysEq mes.toList es := by
  unfold KeysEq
  apply List.ext_getElem?
  intro i
  rw [List.getElem?_map, List.getElem?_map, Array.getElem?_toList]
  by_cases hi : i < mes.size
  · have hi' : i < es.length := by omega
    have := (hk i mes[i] es[i] (by simp [hi]) (by simp [hi'])).1
    simp [hi, hi', this]
  · have hi' : ¬ i < es.length := by omega
    simp [hi, hi']

theorem keyOk_typ {d : Nat} {t : TypeId} {x : T} (h : keyOk P d t x = true) : ∃ dd, typ P t = some dd := by
  cases d with
  | zero => simp [keyOk] at h
  | succ d =>
    cases ht : typ P t with
    | none => simp [keyOk, ht] at h
    | some dd => exact ⟨dd, rfl⟩

theorem aLookup_run [Cp] {t : TypeId} {x ix y : AV} {vx vi : Value} {ok : Bool} (hl : aLookup P t x ix ok h = some y) (hx : Rep D β w vx x) (hi : Rep D β w vi ix)
    (hobj : ∀ (o : Nat) z, o ∈ objsOf x → h[o]? = some z → ObjOk D β w o z) : ∃ v, (Instr.lookup t vx vi ok).run P w = .ok v w ∧ Rep D β w v y := by
  unfold aLookup at hl
  split at hl
  · rename_i kt elem m k ht hk
    have := hi.val? hk
    subst this
    split at hl
    · rename_i es ho
      by_cases hc : (okVal vi && keyOk P 20 kt (ofVal vi)) = true
      · rw [if_pos hc] at hl
        simp at hc
        obtain ⟨hok, hko⟩ := hc
        cases hx with
        | mp _ b kk hb =>
          have hoo := hobj m _ (by simp [objsOf]) ho
          obtain ⟨_, hD, mes, clock, h1, h2, h3⟩ := hoo 0 b kk hb
          have hget : (getObj b).run P w = .ok (.map mes clock) w := by simp [getObj, Sem.run, h1]
          obtain ⟨dd, hdd⟩ := keyOk_typ hko
          have hck : ∀ e, (Instr.checkKey e 10000 kt vi).run P w = .ok () w := fun e => keyOk_run (D := D) 20 kt _ vi e hko (okVal_rep hok) 10000 (by decide)
          split at hl
          · rename_i i hfe
            obtain ⟨q, g1, g2⟩ := findKey_run (w := w) hok hdd (keysEq_of h2 h3) hfe
            split at hl
            · rename_i k0 y0 hes
              cases q with
              | none => exact g2.elim
              | some p =>
                obtain ⟨j, v⟩ := p
                obtain ⟨rfl, _, me, hme, rfl, _⟩ := g2
                have hme' : mes[i]? = some me := by simpa using hme
                have hrep := (h3 i me (k0, y0) hme' hes).2
                simp at hl
                cases ok with
                | false =>
                  simp at hl; subst hl
                  exact ⟨me.val, by simp [Instr.lookup, run_underlying ht, Result.andThen, hget, hck, g1], hrep⟩
                | true =>
                  simp at hl; subst hl
                  refine ⟨.tuple #[me.val, .bool true], by simp [Instr.lookup, run_underlying ht, Result.andThen, hget, hck, g1], ?_⟩
                  refine Rep.mkTup rfl fun i v x hv hx => ?_
                  match i, hv, hx with
                  | 0, hv, hx => simp at hv hx; subst hv; subst hx; exact hrep
                  | 1, hv, hx => simp at hv hx; subst hv; subst hx; exact .t _ _ (.sc _ rfl)
                  | n + 2, hv, hx => simp at hv
            · simp at hl
          · rename_i hfe
            obtain ⟨q, g1, g2⟩ := findKey_run (w := w) hok hdd (keysEq_of h2 h3) hfe
            cases q with
            | some p => exact g2.elim
            | none =>
              split at hl
              · rename_i z hz
                obtain ⟨zv, hzok, rfl, hzr⟩ := zeroOf_val hz
                have hrep : Rep D β w zv (.t (ofVal zv)) := .t _ _ (okVal_rep hzok)
                simp at hl
                cases ok with
                | false =>
                  simp at hl; subst hl
                  exact ⟨zv, by simp [Instr.lookup, run_underlying ht, Result.andThen, hget, hck, g1, hzr], hrep⟩
                | true =>
                  simp at hl; subst hl
                  refine ⟨.tuple #[zv, .bool false], by simp [Instr.lookup, run_underlying ht, Result.andThen, hget, hck, g1, hzr], ?_⟩
                  refine Rep.mkTup rfl fun i v x hv hx => ?_
                  match i, hv, hx with
                  | 0, hv, hx => simp at hv hx; subst hv; subst hx; exact hrep
                  | 1, hv, hx => simp at hv hx; subst hv; subst hx; exact .t _ _ (.sc _ rfl)
                  | n + 2, hv, hx => simp at hv
              · simp at hl
          · simp at hl
      · simp [hc] at hl
    · simp at hl
  · simp at hl


theorem aMapSet_done [Cp] {t : TypeId} {x ix y : AV} {vx vi vy : Value} (hg : GInv Z D β w) (hl : aMapSet P t x ix y h = some h') (hx : Rep D β w vx x) (hi : Rep D β w vi ix) (hy : Rep D β w vy y)
    (hobj : ∀ (o : Nat) z, o ∈ objsOf x → h[o]? = some z → ObjOk D β w o z) :
    Done Z D β w h' (stepS (objsOf x) h h') (.t (.sc undef)) ((do Instr.mapUpdate t vx vi vy; pure .skip : Sem Next).run P w) ∧ (∀ o : Nat, ¬ stepS (objsOf x) h h' o → h'[o]? = h[o]?) ∧ h.length ≤ h'.length := by
  unfold aMapSet at hl
  split at hl
  · rename_i kt elem m k ht hk
    have := hi.val? hk
    subst this
    split at hl
    · rename_i es ho
      by_cases hc : (okVal vi && keyOk P 20 kt (ofVal vi)) = true
      · rw [if_pos hc] at hl
        simp at hc
        obtain ⟨hok, hko⟩ := hc
        have hmlt : m < h.length := (List.getElem?_eq_some_iff.1 ho).1
        cases hx with
        | mp _ b kk hb =>
          have hoo := hobj m _ (by simp [objsOf]) ho
          obtain ⟨_, hD, mes, clock, h1, h2, h3⟩ := hoo 0 b kk hb
          have hget : (getObj b).run P w = .ok (.map mes clock) w := by simp [getObj, Sem.run, h1]
          have hset : ∀ o, (setObj b o).run P w = .ok () (w.putObj b o) := fun o => by simp [setObj, Sem.run, h1, World.putObj]
          obtain ⟨dd, hdd⟩ := keyOk_typ hko
          have hck : ∀ e, (Instr.checkKey e 10000 kt vi).run P w = .ok () w := fun e => keyOk_run (D := D) 20 kt _ vi e hko (okVal_rep hok) 10000 (by decide)
          have fin : ∀ (es' : List (Value × AV)) (mes' : Array MapEntry) (clock' : Nat), h' = h.set m (.map es') → (do Instr.mapUpdate t (.map (some b)) vi vy; pure .skip : Sem Next).run P w = .ok .skip (w.putObj b (.map mes' clock')) →
              mes'.size = es'.length → (∀ (i : Nat) q kv, mes'[i]? = some q → es'[i]? = some kv → q.key = kv.1 ∧ Rep D β w q.val kv.2) →
              Done Z D β w h' (stepS (objsOf (.mp m)) h h') (.t (.sc undef)) ((do Instr.mapUpdate t (.map (some b)) vi vy; pure .skip : Sem Next).run P w) ∧ (∀ o : Nat, ¬ stepS (objsOf (.mp m)) h h' o → h'[o]? = h[o]?) ∧ h.length ≤ h'.length := by
            intro es' mes' clock' hh hrun hsz hent
            subst hh
            rw [hrun]
            have hlt := lt_of_heap h1
            obtain ⟨f, g⟩ := frm_putObj (S := stepS (objsOf (.mp m)) h (h.set m (.map es'))) hg (y := .map mes' clock') (.inl (by simp [objsOf])) hb hD h1 (by simp) (by simp) (by simp) (by simp) (by simp)
            refine ⟨⟨_, _, D, β, rfl, rfl, f, g, fun o z hz hzz => ?_, fun o e y hy => .inl ⟨e, y, hy⟩⟩, fun o ho' => ?_, by simp⟩
            · rcases hz with hz | ⟨hz1, hz2⟩
              · simp [objsOf] at hz
                subst hz
                simp [hmlt] at hzz
                subst hzz
                intro e b' k' hb'
                obtain ⟨rfl, q1, mes0, c0, q2, _, _⟩ := hoo e b' k' hb'
                rw [hb] at hb'
                cases hb'
                exact ⟨rfl, q1, mes', clock', World.putObj_heap_same hlt, hsz, fun i q kv hq hkv => ⟨(hent i q kv hq hkv).1, (hent i q kv hq hkv).2.mono f.ext⟩⟩
              · simp at hz2; omega
            · rw [List.getElem?_set, if_neg]
              rintro rfl
              exact ho' (.inl (by simp [objsOf]))
          split at hl
          · rename_i i hfe
            simp at hl
            obtain ⟨q, g1, g2⟩ := findKey_run (w := w) hok hdd (keysEq_of h2 h3) hfe
            cases q with
            | none => exact g2.elim
            | some p =>
              obtain ⟨j, v⟩ := p
              obtain ⟨rfl, _, me, hme, rfl, hsb⟩ := g2
              have hme' : mes[i]? = some me := by simpa using hme
              have hkt : (Instr.keyThatStays me.key vi).run P w = .ok vi w := by simp [Instr.keyThatStays, hsb]
              have hilt : i < mes.size := (Array.getElem?_eq_some_iff.1 hme').1
              refine fin _ (mes.modify i fun e => { e with key := vi, val := vy }) clock hl.symm ?_ (by simp [h2]) (fun j q kv hq hkv => ?_)
              · simp [Instr.mapUpdate, run_underlying ht, Result.andThen, hget, hck, g1, hme', hkt, hset]
              · rw [Array.getElem?_modify] at hq
                rw [List.getElem?_set] at hkv
                by_cases hij : i = j
                · subst hij
                  simp [hme'] at hq
                  rw [if_pos rfl, if_pos (by omega)] at hkv
                  simp at hkv
                  subst hq; subst hkv
                  exact ⟨rfl, hy⟩
                · rw [if_neg hij] at hq hkv
                  exact h3 j q kv hq hkv
          · rename_i hfe
            simp at hl
            obtain ⟨q, g1, g2⟩ := findKey_run (w := w) hok hdd (keysEq_of h2 h3) hfe
            cases q with
            | some p => exact g2.elim
            | none =>
              refine fin _ (mes.push { key := vi, val := vy, born := clock }) (clock + 1) hl.symm ?_ (by simp [h2]) (fun j q kv hq hkv => ?_)
              · simp [Instr.mapUpdate, run_underlying ht, Result.andThen, hget, hck, g1, hset]
              · rw [Array.getElem?_push] at hq
                by_cases hj : j = mes.size
                · subst hj
                  simp at hq
                  rw [h2, List.getElem?_append_right (Nat.le_refl _)] at hkv
                  simp at hkv
                  subst hq; subst hkv
                  exact ⟨rfl, hy⟩
                · rw [if_neg hj] at hq
                  have hjlt := (Array.getElem?_eq_some_iff.1 hq).1
                  rw [List.getElem?_append_left (by omega)] at hkv
                  exact h3 j q kv hq hkv
          · simp at hl
      · simp [hc] at hl
    · simp at hl
  · simp at hl

end Go.Abs
