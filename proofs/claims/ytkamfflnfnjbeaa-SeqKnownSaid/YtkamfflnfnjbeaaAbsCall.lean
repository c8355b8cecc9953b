/- What a call owes, and the steps of the machine that the evaluator's single operations stand for. -/
import Derived.Test.YtkamfflnfnjbeaaAbsSnap
import Derived.RangeFuncNested
import Derived.TacticsIn
set_option linter.unusedSimpArgs false
set_option linter.unusedVariables false
namespace Go.Abs
open Go

variable {P : Program} {pol : Pol} {K : Oracle} {I : Inl} {Z : Base} {D D' : Dom} {β β' : Bet} {w w' : World} {h h' : Heap} {ro : Option Nat}

/-- All machines are let in; a round's frame or not. -/
def FW (ro : Option Nat) : Fence := { Fence.wide with round := ro }

theorem callsIn_FW {n : Nat} {f : FuncId} {args : Array Value} {R : Ending → World → Prop} (hc : CallsIn Fence.wide n P f args w R) : CallsIn (FW ro) n P f args w R := hc
theorem roundIn_FW {n l : Nat} {f : FuncId} {tmps : Array Value} {assign body : Code} {R : Ending → World → Prop} (hc : RoundIn Fence.wide n P l f tmps assign body w R) : RoundIn (FW ro) n P l f tmps assign body w R := hc

/-- The variables of the program that are read as trees. -/
def GlobOk (pol : Pol) (D : Dom) (w : World) : Prop := ∀ g x, pol.glob g = some x → RepT D w (.pointer (some ⟨g, 0, none⟩)) x

theorem GlobOk.mono (hg : GlobOk pol D w) (hx : Ext D β w D' β' w') : GlobOk pol D' w' := fun g x h => (hg g x h).mono hx.sub hx.same

/-- Nothing that lay has changed. -/
structure KeptW (w w' : World) : Prop where
  size : w.heap.size ≤ w'.heap.size
  old : ∀ b, b < w.heap.size → w'.heap[b]? = w.heap[b]?
  os : w'.os = w.os
  out : w'.output = w.output
  froz : ∀ (b : Nat) c ty fr, w.heap.size ≤ b → w'.heap[b]? = some (.cells c ty fr) → fr = (0, 0)

/-- The blocks of D, and all new ones that hold something. -/
def newD (D : Dom) (w w' : World) : Dom := fun b => D b ∨ (w.heap.size ≤ b ∧ b < w'.heap.size ∧ ∀ ds, w'.heap[b]? ≠ some (.deferred ds))

theorem ext_kept (hk : KeptW w w') (hd : ∀ b, D b → b < w.heap.size) : Ext D β w (newD D w w') β w' where
  sub b hb := .inl hb
  same b hb := hk.old b (hd b hb)
  bet _ _ _ h := h
  rows b n hn := by
    unfold rowSize at *
    cases hb : w.heap[b]? with
    | none => simp [hb] at hn
    | some x => rw [hk.old b (lt_of_heap hb), hb]; simpa [hb] using hn
  defs b ds h := (hk.old b (lt_of_heap h)).trans h
  loops b L h := ⟨L, (hk.old b (lt_of_heap h)).trans h⟩
  size := hk.size

theorem frm_kept {S : Nat → Prop} (hk : KeptW w w') (hg : GInv Z D β w) : Frm S D β w (newD D w w') β w' ∧ GInv Z (newD D w w') β w' := by
  refine ⟨⟨ext_kept hk hg.dlt, fun o e b k _ hb => ?_, fun _ _ _ => rfl⟩, ?_⟩
  · have := (hg.blt o e b k hb).2
    exact ⟨hk.old b this, fun h => h.elim id (fun h => by omega)⟩
  · have hs := hg.size0
    refine ⟨by have := hk.size; omega, fun b hb => (hk.old b (by omega)).trans (hg.old b hb), hk.os.trans hg.os, hk.out.trans hg.out, fun b c ty fr hb hc => ?_, fun b hb => ?_, fun b hb hl => ?_, fun o e b k hb => ?_, hg.inj, fun b ds hb hN => ?_⟩
    · by_cases h : b < w.heap.size
      · rw [hk.old b h] at hc; exact hg.froz b c ty fr hb hc
      · exact hk.froz b c ty fr (by omega) hc
    · rcases hb with hb | hb
      · have := hg.dlt b hb; have := hk.size; omega
      · exact hb.2.1
    · rcases hb with hb | hb
      · exact hg.dn b hb hl
      · omega
    · have := hg.blt o e b k hb; have := hk.size; omega
    · by_cases h : b < w.heap.size
      · have hb' := hb
        rw [hk.old b h] at hb'
        obtain ⟨q1, q2⟩ := hg.nd b ds hb' hN
        exact ⟨fun hd => hd.elim q1 (fun x => by omega), q2⟩
      · exact ⟨fun hd => hd.elim (fun x => h (hg.dlt b x)) (fun x => x.2.2 ds hb), fun o e k hk' => h (hg.blt o e b k hk').2⟩

def Callable (P : Program) (f : FuncId) : Prop := ∃ fn c, P.funcs[f]? = some fn ∧ fn.body = some c ∧ fn.name ≠ "runtime.NumGoroutine"

theorem run_callFunc {f : FuncId} (hf : Callable P f) (args : Array Value) (w : World) : (callFunc f args).run P w = .ok (.enter f args) w := by
  obtain ⟨fn, c, h1, h2, h3⟩ := hf
  simp [callFunc, program, Sem.run, bind, Sem.bind, h1, h2, h3, pure]

/-- A function that reads trees and hands back a tree, and changes nothing that lay. -/
def PureSim (P : Program) (pol : Pol) (f : FuncId) (ts : List T) (r : T) : Prop :=
  Callable P f ∧ ∀ (w : World) (D : Dom) (args : Array Value), (∀ b, D b → b < w.heap.size) → GlobOk pol D w → args.size = ts.length →
    (∀ (i : Nat) v t, args[i]? = some v → ts[i]? = some t → RepT D w v t) → CallsIn Fence.wide 0 P f args w (fun e w' => ∃ v, e = .returned v ∧ KeptW w w' ∧ RepT (newD D w w') w' v r)

def KOk (P : Program) (pol : Pol) (K : Oracle) : Prop := ∀ f ts r, K f ts = some r → PureSim P pol f ts r

/-- What a call in the caller's heap ends in. -/
def InlPost [Cp] (pol : Pol) (Z : Base) (D : Dom) (β : Bet) (w : World) (v : AV) (h' : Heap) (e : Ending) (w' : World) : Prop :=
  ∃ v', e = .returned v' ∧ ∃ D' β', Inv Z D' β' h' w' ∧ GlobOk pol D' w' ∧ Ext D β w D' β' w' ∧ Rep D' β' w' v' v

structure IOk [Cp] (P : Program) (pol : Pol) (I : Inl) : Prop where
  fn : ∀ f args h v h', I (.fn f) args h = some (v, h') → Callable P f ∧ ∀ (Z : Base) (D : Dom) (β : Bet) (w : World) (vs : List Value), Inv Z D β h w → GlobOk pol D w → RepL D β w vs args →
    CallsIn Fence.wide 0 P f vs.toArray w (InlPost pol Z D β w v h')
  yl : ∀ o args h v h', I (.yl o) args h = some (v, h') → ∀ (Z : Base) (D : Dom) (β : Bet) (w : World) (vs : List Value) (b k : Nat), Inv Z D β h w → GlobOk pol D w → RepL D β w vs args → β o 0 = some (b, k) →
    ∃ g tmps assign body, (Instr.yield b vs.toArray).run P w = .ok (.round b g tmps assign body) w ∧ RoundIn Fence.wide 0 P b g tmps assign body w (InlPost pol Z D β w v h')

/-! ### Operands -/

theorem eval_rep {a : Act} {env : Env} (he : EnvRep D β w a.tmps env) (hg : GlobOk pol D w) (x : Operand) : Rep D β w (a.eval x) (evalOperand pol env x) := by
  cases x with
  | tmp t =>
    simp only [Act.eval, evalOperand]
    by_cases ht : t < env.length
    · have h1 : env[t]? = some env[t] := by simp [ht]
      have ht' : t < a.tmps.size := by rw [he.1]; exact ht
      have h2 : a.tmps[t]? = some a.tmps[t] := by simp [ht']
      have := he.2 t _ _ h2 h1
      rw [Array.getD_eq_getD_getElem?, h2, List.getD_eq_getElem?_getD, h1]
      exact this
    · rw [List.getD_eq_getElem?_getD, List.getElem?_eq_none (Nat.le_of_not_lt ht)]
      exact .dead _
  | const v =>
    simp only [Act.eval, evalOperand]
    split
    · rename_i hv; exact .t _ _ (okVal_rep hv)
    · exact .dead _
  | global g =>
    simp only [Act.eval, evalOperand]
    split
    · rename_i x hx; exact .t _ _ (hg g x hx)
    · exact .dead _
  | func f => exact .t _ _ (.fn _ #[] #[] [] [] rfl rfl (by simp) (by simp))

theorem EnvRep.set {tmps : Array Value} {env : Env} (he : EnvRep D β w tmps env) (d : Nat) {v : Value} {x : AV} (hr : Rep D β w v x) : EnvRep D β w (tmps.setIfInBounds d v) (env.set d x) := by
  refine ⟨by simp [he.1], fun i u y hu hy => ?_⟩
  rw [Array.getElem?_setIfInBounds] at hu
  rw [List.getElem?_set] at hy
  by_cases hi : d = i
  · subst hi
    by_cases hl : d < env.length
    · have hl' : d < tmps.size := by rw [he.1]; exact hl
      simp [hl'] at hu
      simp [hl] at hy
      subst hu; subst hy
      exact hr
    · simp [hl] at hy
  · simp [hi] at hu hy
    exact he.2 i u y hu hy

theorem EnvRep.put {a : Act} {env : Env} (he : EnvRep D β w a.tmps env) (dst : Option Tmp) {v : Value} {x : AV} (hr : Rep D β w v x) : EnvRep D β w (a.put dst v).tmps (Go.Abs.put env dst x) := by
  cases dst with
  | none => exact he
  | some d => exact he.set d hr

theorem put_defers (a : Act) (dst : Option Tmp) (v : Value) : (a.put dst v).defers = a.defers := by cases dst <;> rfl

theorem undef_rep : Rep D β w undef (.t (.sc undef)) := .t _ _ (.sc _ rfl)

/-! ### Calls -/

theorem repL_args {ρ : Operand → AV} {ρr : Operand → Value} (hρ : ∀ x, Rep D β w (ρr x) (ρ x)) (l : List Operand) : RepL D β w (l.map ρr) (l.map ρ) := by
  refine ⟨by simp, fun i v x hv hx => ?_⟩
  rw [List.getElem?_map, Option.map_eq_some_iff] at hv hx
  obtain ⟨a, ha, rfl⟩ := hv
  obtain ⟨b, hb, rfl⟩ := hx
  rw [ha] at hb
  cases hb
  exact hρ a

theorem RepL.append {vs vs' : List Value} {xs xs' : List AV} (h1 : RepL D β w vs xs) (h2 : RepL D β w vs' xs') : RepL D β w (vs ++ vs') (xs ++ xs') := by
  refine ⟨by simp [h1.1, h2.1], fun i v x hv hx => ?_⟩
  rw [List.getElem?_append] at hv hx
  rw [← h1.1] at hx
  split at hv
  · rename_i hi; rw [if_pos hi] at hx; exact h1.2 i v x hv hx
  · rename_i hi; rw [if_neg hi] at hx; exact h2.2 _ v x hv hx

theorem RepL.mono {vs : List Value} {xs : List AV} (hx : Ext D β w D' β' w') (h1 : RepL D β w vs xs) : RepL D' β' w' vs xs := ⟨h1.1, fun i v x hv he => (h1.2 i v x hv he).mono hx⟩

theorem repL_trees {a : Array Value} {ts : List T} (hs : a.size = ts.length) (hr : ∀ (i : Nat) v t, a[i]? = some v → ts[i]? = some t → RepT D w v t) : RepL D β w a.toList (ts.map .t) := by
  refine ⟨by simp [hs], fun i v x hv hx => ?_⟩
  rw [List.getElem?_map, Option.map_eq_some_iff] at hx
  obtain ⟨t, ht, rfl⟩ := hx
  exact .t _ _ (hr i v t (by simpa using hv) ht)

theorem repL_of {a : Array Value} {xs : List AV} (hs : a.size = xs.length) (hr : ∀ (i : Nat) v t, a[i]? = some v → xs[i]? = some t → Rep D β w v t) : RepL D β w a.toList xs :=
  ⟨by simp [hs], fun i v x hv hx => hr i v x (by simpa using hv) hx⟩

/-- How a callee's value leads on. -/
theorem callee_run {x : AV} {vx : Value} {args args' : List AV} {vs : List Value} {g : Tgt} (ha : aCallee x args = some (.call g args')) (hx : Rep D β w vx x) (hr : RepL D β w vs args) :
    ∃ d vs', (∀ w, (Deferred.ofValue vx vs.toArray).run P w = .ok d w) ∧ RepL D β w vs' args' ∧
      (match g with
       | .fn f => ∀ w, (invoke d.target d.args).run P w = (callFunc f vs'.toArray).run P w
       | .yl o => ∃ b k, β o 0 = some (b, k) ∧ ∀ w, (invoke d.target d.args).run P w = (Instr.yield b vs'.toArray).run P w) := by
  have fnCase : ∀ {f : Fn} {a b : Array Value} {x1 x2 : List AV}, callOf x1 f x2 args = some (.call g args') → vx = .func f a b → RepL D β w a.toList x1 → RepL D β w b.toList x2 →
      ∃ d vs', (∀ w, (Deferred.ofValue vx vs.toArray).run P w = .ok d w) ∧ RepL D β w vs' args' ∧
      (match g with
       | .fn f => ∀ w, (invoke d.target d.args).run P w = (callFunc f vs'.toArray).run P w
       | .yl o => ∃ b k, β o 0 = some (b, k) ∧ ∀ w, (invoke d.target d.args).run P w = (Instr.yield b vs'.toArray).run P w) := by
    intro f a b x1 x2 hc hv h1 h2
    unfold callOf at hc
    split at hc
    · rename_i gf
      cases hc
      subst hv
      refine ⟨{ target := .fn (.func gf) b, args := a ++ vs.toArray }, a.toList ++ vs ++ b.toList, fun w => rfl, (h1.append hr).append h2, fun w => ?_⟩
      have e : a ++ vs.toArray ++ b = (a.toList ++ vs ++ b.toList).toArray := by apply Array.ext'; simp
      simp only [invoke]
      rw [e]
    · simp at hc
  unfold aCallee at ha
  split at ha
  · rename_i f first captured
    have ht := hx.toT
    cases ht with
    | fn _ a b _ _ s1 s2 r1 r2 => exact fnCase ha rfl (repL_trees s1 r1) (repL_trees s2 r2)
  · rename_i f first captured
    cases hx with
    | fn _ a b _ _ s1 s2 r1 r2 => exact fnCase ha rfl (repL_of s1 r1) (repL_of s2 r2)
  · rename_i o
    simp at ha
    obtain ⟨rfl, rfl⟩ := ha
    cases hx with
    | yl _ b k hb =>
      refine ⟨{ target := .fn (.yield b) #[], args := #[] ++ vs.toArray }, vs, fun w => rfl, hr, b, k, hb, fun w => ?_⟩
      simp [invoke]
  · simp at ha

theorem plain_rep {r : T} {v : Value} (hp : r.plain = true) (hr : RepT D w v r) : RepT D' w' v r := by
  have scs : ∀ {cs : Array Value} {ts : List T}, cs.size = ts.length → (∀ (i : Nat) v t, cs[i]? = some v → ts[i]? = some t → RepT D w v t) → (ts.all fun | .sc _ => true | _ => false) = true →
      ∀ (i : Nat) v t, cs[i]? = some v → ts[i]? = some t → RepT D' w' v t := by
    intro cs ts hl h hall i v t hv ht
    have hm := List.all_eq_true.1 hall t (List.mem_of_getElem? ht)
    have hr := h i v t hv ht
    cases t <;> simp at hm
    obtain ⟨rfl, hn⟩ := hr.sc_eq
    exact .sc _ hn
  cases hr with
  | sc v hv => exact .sc v hv
  | agg cs ts hl h => exact .agg cs ts hl (scs hl h hp)
  | tup cs ts hl h =>
    refine .tup cs ts hl fun i v t hv ht => ?_
    have hm := List.all_eq_true.1 hp t (List.mem_of_getElem? ht)
    have hr := h i v t hv ht
    cases hr with
    | sc v hv => exact .sc v hv
    | agg cs ts hl h => exact .agg cs ts hl (scs hl h hm)
    | _ => simp at hm
  | _ => simp [T.plain] at hp

/-- The machine's step at a call that enters a function. -/
theorem wpIn_enter {o : Oper} {a : Act} {c : Call} {g : Operand} {f : FuncId} {vs : Array Value} {next : Act → World → Prop} {Q : Exit → Act → World → Prop} {d : Deferred} (ho : o.op = .call c) (hc : c.callee = .value g)
    (hd : (Deferred.ofValue (a.eval g) (c.args.map a.eval)).run P w = .ok d w) (hi : (invoke d.target d.args).run P w = .ok (.enter f vs) w) {R : Ending → World → Prop} (hcall : CallsIn Fence.wide 0 P f vs w R)
    (hn : ∀ e w', R e w' → ∃ v, e = .returned v ∧ next (a.put o.dst v) w') : o.wpIn (FW ro) 0 P a w next Q := by
  refine ⟨fun _ _ => trivial, ?_⟩
  rw [Oper.semAt_eq _ _ _ (by rw [ho]; simp)]
  have hex : (execOp a.eval o).run P w = .ok (.enter f vs) w := by
    simp only [execOp, ho, resolve, hc, Sem.run_bind, hd, Result.andThen, hi]
  rw [hex, Oper.uponIn_enter]
  refine ⟨fun hd => by simp [FW, Fence.wide] at hd, callsIn_FW (CallsIn.mono hcall fun e w' hR => ?_)⟩
  obtain ⟨v, rfl, hx⟩ := hn e w' hR
  exact hx

theorem wpIn_round {o : Oper} {a : Act} {c : Call} {g : Operand} {l : Nat} {f : FuncId} {tmps : Array Value} {assign body : Code} {next : Act → World → Prop} {Q : Exit → Act → World → Prop} {d : Deferred} (ho : o.op = .call c) (hc : c.callee = .value g)
    (hd : (Deferred.ofValue (a.eval g) (c.args.map a.eval)).run P w = .ok d w) (hi : (invoke d.target d.args).run P w = .ok (.round l f tmps assign body) w) {R : Ending → World → Prop} (hcall : RoundIn Fence.wide 0 P l f tmps assign body w R)
    (hn : ∀ e w', R e w' → ∃ v, e = .returned v ∧ next (a.put o.dst v) w') : o.wpIn (FW ro) 0 P a w next Q := by
  refine ⟨fun _ _ => trivial, ?_⟩
  rw [Oper.semAt_eq _ _ _ (by rw [ho]; simp)]
  have hex : (execOp a.eval o).run P w = .ok (.round l f tmps assign body) w := by
    simp only [execOp, ho, resolve, hc, Sem.run_bind, hd, Result.andThen, hi]
  rw [hex, Oper.uponIn_round]
  refine ⟨fun hd => by simp [FW, Fence.wide] at hd, roundIn_FW (RoundIn.mono hcall fun e w' hR => ?_)⟩
  obtain ⟨v, rfl, hx⟩ := hn e w' hR
  exact hx

/-- The machine's step at an operation that is no call of a function. -/
theorem wpIn_done [Cp] {o : Oper} {a : Act} {S : Nat → Prop} {v : AV} {next : Act → World → Prop} {Q : Exit → Act → World → Prop} (ho : ∀ c, o.op ≠ .defer c) (hd : Done Z D β w h' S v ((execOp a.eval o).run P w))
    (hn : ∀ v' w' D' β', Rep D' β' w' v' v → Frm S D β w D' β' w' → GInv Z D' β' w' → (∀ (o : Nat) x, S o → h'[o]? = some x → ObjOk D' β' w' o x) → (∀ o e y, β' o e = some y → (∃ e' y', β o e' = some y') ∨ o < h'.length) → next (a.put o.dst v') w') :
    o.wpIn (FW ro) 0 P a w next Q := by
  refine ⟨fun _ _ => trivial, ?_⟩
  rw [Oper.semAt_eq _ _ _ ho]
  obtain ⟨nx, w', D', β', hr, hm, hf, hg, hob, hdm⟩ := hd
  rw [hr]
  cases nx with
  | value v' => exact hn v' w' D' β' hm hf hg hob hdm
  | skip => exact hn undef w' D' β' (by rw [hm]; exact undef_rep) hf hg hob hdm
  | _ => exact hm.elim

end Go.Abs
