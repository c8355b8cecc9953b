/- How the abstract values stand for the model's values in a world, and what a step of the machine leaves of that. -/
import Derived.Test.YtkamfflnfnjbeaaAbsDef
import Derived.Laws.World
import Derived.Laws.Sem
import Derived.RangeFuncLeaves
set_option linter.unusedSimpArgs false
set_option linter.unusedVariables false
namespace Go.Abs
open Go

/-- What is known of the code of a function's parts. -/
class Cp where
  ok : FuncId → Code → Prop

abbrev Dom := Nat → Prop
abbrev Bet := Nat → Nat → Option (Nat × Nat)

inductive RepT (D : Dom) (w : World) : Value → T → Prop
  | sc (v : Value) (hv : noAgg v = true) : RepT D w v (.sc v)
  | agg (cs : Array Value) (ts : List T) (hl : cs.size = ts.length) (h : ∀ (i : Nat) v t, cs[i]? = some v → ts[i]? = some t → RepT D w v t) : RepT D w (.agg cs) (.agg ts)
  | tup (cs : Array Value) (ts : List T) (hl : cs.size = ts.length) (h : ∀ (i : Nat) v t, cs[i]? = some v → ts[i]? = some t → RepT D w v t) : RepT D w (.tuple cs) (.tup ts)
  | fn (f : Fn) (a b : Array Value) (x y : List T) (ha : a.size = x.length) (hb : b.size = y.length)
      (h1 : ∀ (i : Nat) v t, a[i]? = some v → x[i]? = some t → RepT D w v t) (h2 : ∀ (i : Nat) v t, b[i]? = some v → y[i]? = some t → RepT D w v t) : RepT D w (.func f a b) (.fn f x y)
  | ip (b off : Nat) (cs : List T) (hD : D b) (c : Nat → Value) (hc : ∀ j, j < cs.length → w.cell? ⟨b, off + j, none⟩ = some (c j) ∧ okCell (c j) = true)
      (h : ∀ (j : Nat) t, cs[j]? = some t → RepT D w (c j) t) : RepT D w (.pointer (some ⟨b, off, none⟩)) (.ip cs)
  | nosl (a : Option Addr) (cap : Nat) (clip : Bool) (k : Nat) (hc : clip = true → cap = 0) : RepT D w (.slice a 0 cap) (.sl clip k [])
  | sl (b off len cap : Nat) (clip : Bool) (k : Nat) (xs : List T) (hD : D b) (hlen : len = xs.length) (hcap : len ≤ cap) (hclip : clip = true → cap = len)
      (hk : ∀ (i : Nat) x, xs[i]? = some x → x.cells.length = k) (c : Nat → Value) (hc : ∀ j, j < len * k → w.cell? ⟨b, off + j, none⟩ = some (c j) ∧ okCell (c j) = true)
      (h : ∀ (i : Nat) x (j : Nat) t, xs[i]? = some x → x.cells[j]? = some t → RepT D w (c (i * k + j)) t) : RepT D w (.slice (some ⟨b, off, none⟩) len cap) (.sl clip k xs)

def rowSize (w : World) (b : Nat) : Option Nat :=
  match w.heap[b]? with
  | some (.cells c _ _) => some c.size
  | _ => none

inductive Rep (D : Dom) (β : Bet) (w : World) : Value → AV → Prop
  | t (v : Value) (x : T) (h : RepT D w v x) : Rep D β w v (.t x)
  | agg (cs : Array Value) (ts : List AV) (hl : cs.size = ts.length) (h : ∀ (i : Nat) v t, cs[i]? = some v → ts[i]? = some t → Rep D β w v t) : Rep D β w (.agg cs) (.agg ts)
  | tup (cs : Array Value) (ts : List AV) (hl : cs.size = ts.length) (h : ∀ (i : Nat) v t, cs[i]? = some v → ts[i]? = some t → Rep D β w v t) : Rep D β w (.tuple cs) (.tup ts)
  | fn (f : Fn) (a b : Array Value) (x y : List AV) (ha : a.size = x.length) (hb : b.size = y.length)
      (h1 : ∀ (i : Nat) v t, a[i]? = some v → x[i]? = some t → Rep D β w v t) (h2 : ∀ (i : Nat) v t, b[i]? = some v → y[i]? = some t → Rep D β w v t) : Rep D β w (.func f a b) (.fn f x y)
  | ref (o e i off b k : Nat) (hb : β o e = some (b, k)) : Rep D β w (.pointer (some ⟨b, i * k + off, none⟩)) (.ref o e i off)
  | ms0 (a : Option Addr) (o e i k : Nat) (clip : Bool) : Rep D β w (.slice a 0 0) (.ms o e i 0 k clip)
  | ms (o e i len k : Nat) (clip : Bool) (b cap n : Nat) (hb : β o e = some (b, k)) (hle : i + len ≤ e) (hcap : len ≤ cap) (hclip : clip = true → cap = len)
      (hn : rowSize w b = some n) (hsz : (i + cap) * k ≤ n) : Rep D β w (.slice (some ⟨b, i * k, none⟩) len cap) (.ms o e i len k clip)
  | mp (o b k : Nat) (hb : β o 0 = some (b, k)) : Rep D β w (.map (some b)) (.mp o)
  | yl (o b k : Nat) (hb : β o 0 = some (b, k)) : Rep D β w (.func (.yield b) #[] #[]) (.yl o)
  | dead (v : Value) : Rep D β w v .dead

structure Ext (D : Dom) (β : Bet) (w : World) (D' : Dom) (β' : Bet) (w' : World) : Prop where
  sub : ∀ b, D b → D' b
  same : ∀ b, D b → w'.heap[b]? = w.heap[b]?
  bet : ∀ o e x, β o e = some x → β' o e = some x
  rows : ∀ b n, rowSize w b = some n → rowSize w' b = some n
  defs : ∀ (b : Nat) ds, w.heap[b]? = some (.deferred ds) → w'.heap[b]? = some (.deferred ds)
  loops : ∀ (b : Nat) L, w.heap[b]? = some (.loop L) → ∃ L', w'.heap[b]? = some (.loop L')
  size : w.heap.size ≤ w'.heap.size

theorem Ext.refl (D : Dom) (β : Bet) (w : World) : Ext D β w D β w :=
  ⟨fun _ h => h, fun _ _ => rfl, fun _ _ _ h => h, fun _ _ h => h, fun _ _ h => h, fun _ L h => ⟨L, h⟩, Nat.le_refl _⟩

theorem Ext.trans {D D' D'' : Dom} {β β' β'' : Bet} {w w' w'' : World} (h : Ext D β w D' β' w') (h' : Ext D' β' w' D'' β'' w'') : Ext D β w D'' β'' w'' :=
  ⟨fun b x => h'.sub b (h.sub b x), fun b x => (h'.same b (h.sub b x)).trans (h.same b x), fun o e x y => h'.bet o e x (h.bet o e x y), fun b n x => h'.rows b n (h.rows b n x),
   fun b ds x => h'.defs b ds (h.defs b ds x), fun b L x => let ⟨L1, y⟩ := h.loops b L x; h'.loops b L1 y, Nat.le_trans h.size h'.size⟩

theorem cell?_congr {w w' : World} {a : Addr} (h : w'.heap[a.block]? = w.heap[a.block]?) : w'.cell? a = w.cell? a := by
  simp only [World.cell?, h]

theorem RepT.mono {D D' : Dom} {w w' : World} (hs : ∀ b, D b → D' b) (hw : ∀ b, D b → w'.heap[b]? = w.heap[b]?) {v : Value} {x : T} (h : RepT D w v x) : RepT D' w' v x := by
  induction h with
  | sc v hv => exact .sc v hv
  | agg cs ts hl _ ih => exact .agg cs ts hl ih
  | tup cs ts hl _ ih => exact .tup cs ts hl ih
  | fn f a b x y ha hb _ _ ih1 ih2 => exact .fn f a b x y ha hb ih1 ih2
  | ip b off cs hD c hc _ ih => exact .ip b off cs (hs b hD) c (fun j hj => ⟨(cell?_congr (hw b hD)).trans (hc j hj).1, (hc j hj).2⟩) ih
  | nosl a cap clip k hc => exact .nosl a cap clip k hc
  | sl b off len cap clip k xs hD hlen hcap hclip hk c hc _ ih =>
    exact .sl b off len cap clip k xs (hs b hD) hlen hcap hclip hk c (fun j hj => ⟨(cell?_congr (hw b hD)).trans (hc j hj).1, (hc j hj).2⟩) ih

theorem Rep.mono {D D' : Dom} {β β' : Bet} {w w' : World} (hx : Ext D β w D' β' w') {v : Value} {x : AV} (h : Rep D β w v x) : Rep D' β' w' v x := by
  induction h with
  | t v x h => exact .t v x (h.mono hx.sub hx.same)
  | agg cs ts hl _ ih => exact .agg cs ts hl ih
  | tup cs ts hl _ ih => exact .tup cs ts hl ih
  | fn f a b x y ha hb _ _ ih1 ih2 => exact .fn f a b x y ha hb ih1 ih2
  | ref o e i off b k hb => exact .ref o e i off b k (hx.bet _ _ _ hb)
  | ms0 a o e i k clip => exact .ms0 a o e i k clip
  | ms o e i len k clip b cap n hb hle hcap hclip hn hsz => exact .ms o e i len k clip b cap n (hx.bet _ _ _ hb) hle hcap hclip (hx.rows _ _ hn) hsz
  | mp o b k hb => exact .mp o b k (hx.bet _ _ _ hb)
  | yl o b k hb => exact .yl o b k (hx.bet _ _ _ hb)
  | dead v => exact .dead v

/-- A list of values, one by one. -/
def RepL (D : Dom) (β : Bet) (w : World) (vs : List Value) (xs : List AV) : Prop :=
  vs.length = xs.length ∧ ∀ (i : Nat) v x, vs[i]? = some v → xs[i]? = some x → Rep D β w v x

def EnvRep (D : Dom) (β : Bet) (w : World) (tmps : Array Value) (env : Env) : Prop :=
  tmps.size = env.length ∧ ∀ (i : Nat) v x, tmps[i]? = some v → env[i]? = some x → Rep D β w v x

theorem EnvRep.mono {D D' : Dom} {β β' : Bet} {w w' : World} (hx : Ext D β w D' β' w') {tmps : Array Value} {env : Env} (h : EnvRep D β w tmps env) : EnvRep D' β' w' tmps env :=
  ⟨h.1, fun i v x hv he => (h.2 i v x hv he).mono hx⟩

def RowOk (D : Dom) (β : Bet) (w : World) (o k : Nat) (elems : List AV) (mr : Nat) : Prop :=
  (∀ (i : Nat) x, elems[i]? = some x → x.cells.length = k) ∧
  ∀ e b k', β o e = some (b, k') → ¬ D b ∧ k' = k ∧ e ≤ elems.length ∧
    (mr ≤ e → ∃ c ty, w.heap[b]? = some (.cells c ty (0, 0)) ∧ e * k ≤ c.size ∧
      ∀ (i : Nat) x (j : Nat) t, i < e → elems[i]? = some x → x.cells[j]? = some t → ∃ v, c[i * k + j]? = some v ∧ okCell v = true ∧ Rep D β w v t)

def ObjOk [Cp] (D : Dom) (β : Bet) (w : World) (o : Nat) : AObj → Prop
  | .gone => True
  | .row k elems mr => RowOk D β w o k elems mr
  | .map es => ∀ e b k, β o e = some (b, k) → e = 0 ∧ ¬ D b ∧ ∃ mes clock, w.heap[b]? = some (.map mes clock) ∧ mes.size = es.length ∧
      ∀ (i : Nat) m kv, mes[i]? = some m → es[i]? = some kv → m.key = kv.1 ∧ Rep D β w m.val kv.2
  | .loop f env params assign body busy pending => ∀ e b k, β o e = some (b, k) → e = 0 ∧ ¬ D b ∧ ∃ L : Loop, w.heap[b]? = some (.loop L) ∧ (Cp.ok f assign ∧ Cp.ok f body) ∧ L.params.toList = params ∧
      L.assign = assign ∧ L.body = body ∧ L.pending = pending ∧ L.state = (if busy then .busy else if pending.isNone then .ready else .done) ∧ EnvRep D β w L.tmps env

/-- Where an activation began: what lay then, and which of it is read as trees. -/
structure Base where
  N : Nat
  W : World
  D : Dom

structure GInv (Z : Base) (D : Dom) (β : Bet) (w : World) : Prop where
  size0 : Z.N ≤ w.heap.size
  old : ∀ b, b < Z.N → w.heap[b]? = Z.W.heap[b]?
  os : w.os = Z.W.os
  out : w.output = Z.W.output
  froz : ∀ (b : Nat) c ty fr, Z.N ≤ b → w.heap[b]? = some (.cells c ty fr) → fr = (0, 0)
  dlt : ∀ b, D b → b < w.heap.size
  dn : ∀ b, D b → b < Z.N → Z.D b
  blt : ∀ o e b k, β o e = some (b, k) → Z.N ≤ b ∧ b < w.heap.size
  inj : ∀ o e b k o' e' k', β o e = some (b, k) → β o' e' = some (b, k') → o = o'
  nd : ∀ (b : Nat) ds, w.heap[b]? = some (.deferred ds) → Z.N ≤ b → ¬ D b ∧ ∀ o e k, β o e ≠ some (b, k)

structure Inv [Cp] (Z : Base) (D : Dom) (β : Bet) (h : Heap) (w : World) : Prop where
  g : GInv Z D β w
  obj : ∀ (o : Nat) x, h[o]? = some x → ObjOk D β w o x
  dom : ∀ o e y, β o e = some y → o < h.length

/-- What a step leaves alone: the objects outside S. -/
structure Frm (S : Nat → Prop) (D : Dom) (β : Bet) (w : World) (D' : Dom) (β' : Bet) (w' : World) : Prop where
  ext : Ext D β w D' β' w'
  fr : ∀ o e b k, ¬ S o → β o e = some (b, k) → w'.heap[b]? = w.heap[b]? ∧ (D' b → D b)
  bt : ∀ o e, ¬ S o → β' o e = β o e

theorem ObjOk.frame [Cp] {S : Nat → Prop} {D D' : Dom} {β β' : Bet} {w w' : World} (hf : Frm S D β w D' β' w') {o : Nat} (ho : ¬ S o) {x : AObj} (h : ObjOk D β w o x) : ObjOk D' β' w' o x := by
  cases x with
  | gone => trivial
  | row k elems mr =>
    refine ⟨h.1, fun e b k' hb => ?_⟩
    rw [hf.bt o e ho] at hb
    obtain ⟨hD, hk, he, hc⟩ := h.2 e b k' hb
    obtain ⟨hw, hd⟩ := hf.fr o e b k' ho hb
    refine ⟨fun x => hD (hd x), hk, he, fun hm => ?_⟩
    obtain ⟨c, ty, h1, h2, h3⟩ := hc hm
    refine ⟨c, ty, hw.trans h1, h2, fun i x j t hi hx ht => ?_⟩
    obtain ⟨v, hv, hk', hr⟩ := h3 i x j t hi hx ht
    exact ⟨v, hv, hk', hr.mono hf.ext⟩
  | map es =>
    intro e b k hb
    rw [hf.bt o e ho] at hb
    obtain ⟨h0, hD, mes, clock, h1, h2, h3⟩ := h e b k hb
    obtain ⟨hw, hd⟩ := hf.fr o e b k ho hb
    exact ⟨h0, fun x => hD (hd x), mes, clock, hw.trans h1, h2, fun i m kv hm hk => ⟨(h3 i m kv hm hk).1, (h3 i m kv hm hk).2.mono hf.ext⟩⟩
  | loop f env params assign body busy pending =>
    intro e b k hb
    rw [hf.bt o e ho] at hb
    obtain ⟨h0, hD, L, h1, h2, h3, h4, h5, h6, h7, h8⟩ := h e b k hb
    obtain ⟨hw, hd⟩ := hf.fr o e b k ho hb
    exact ⟨h0, fun x => hD (hd x), L, hw.trans h1, h2, h3, h4, h5, h6, h7, h8.mono hf.ext⟩

/-- The whole invariant behind a step that keeps to S. -/
theorem Inv.step [Cp] {S : Nat → Prop} {Z : Base} {D D' : Dom} {β β' : Bet} {w w' : World} {h h' : Heap} (hi : Inv Z D β h w)
    (hg : GInv Z D' β' w') (hf : Frm S D β w D' β' w') (ha : ∀ o : Nat, ¬ S o → h'[o]? = h[o]?) (hS : ∀ (o : Nat) x, S o → h'[o]? = some x → ObjOk D' β' w' o x)
    (hl : h.length ≤ h'.length) (hd : ∀ o e y, S o → β' o e = some y → o < h'.length) : Inv Z D' β' h' w' := by
  refine ⟨hg, fun o x hx => ?_, fun o e y hy => ?_⟩
  · by_cases hs : S o
    · exact hS o x hs hx
    · rw [ha o hs] at hx
      exact (hi.obj o x hx).frame hf hs
  · by_cases hs : S o
    · exact hd o e y hs hy
    · rw [hf.bt o e hs] at hy
      exact Nat.lt_of_lt_of_le (hi.dom o e y hy) hl

end Go.Abs
