/- What new blocks and writes do to the invariant. -/
import Derived.Test.YtkamfflnfnjbeaaAbsOpC
import Derived.RangeFuncRecord
set_option linter.unusedSimpArgs false
set_option linter.unusedVariables false
namespace Go.Abs
open Go

variable {P : Program} {Z : Base} {D D' D'' : Dom} {β β' β'' : Bet} {w w' w'' : World} {S : Nat → Prop}

theorem heap_alloc_old {obj : Obj} {b : Nat} (h : b < w.heap.size) : (w.alloc obj).heap[b]? = w.heap[b]? := by
  show (w.heap.push obj)[b]? = w.heap[b]?
  rw [Array.getElem?_push, if_neg (by omega)]

theorem heap_alloc_new (obj : Obj) : (w.alloc obj).heap[w.heap.size]? = some obj := by
  show (w.heap.push obj)[w.heap.size]? = some obj
  simp

theorem lt_of_heap {b : Nat} {o : Obj} (h : w.heap[b]? = some o) : b < w.heap.size := (Array.getElem?_eq_some_iff.1 h).1

theorem rowSize_alloc {obj : Obj} {b n : Nat} (h : rowSize w b = some n) : rowSize (w.alloc obj) b = some n := by
  unfold rowSize at *
  cases hb : w.heap[b]? with
  | none => simp [hb] at h
  | some x => rw [heap_alloc_old (lt_of_heap hb), hb]; simpa [hb] using h

theorem ext_alloc (obj : Obj) (hd : ∀ b, D b → b < w.heap.size) : Ext D β w D β (w.alloc obj) :=
  ⟨fun _ h => h, fun b h => heap_alloc_old (hd b h), fun _ _ _ h => h, fun _ _ h => rowSize_alloc h, fun b ds h => (heap_alloc_old (lt_of_heap h)).trans h, fun b L h => ⟨L, (heap_alloc_old (lt_of_heap h)).trans h⟩, by simp⟩

theorem GInv.alloc (hg : GInv Z D β w) (obj : Obj) (hfr : ∀ c ty fr, obj = .cells c ty fr → fr = (0, 0)) : GInv Z D β (w.alloc obj) where
  size0 := by have := hg.size0; simp; omega
  old b hb := (heap_alloc_old (Nat.lt_of_lt_of_le hb hg.size0)).trans (hg.old b hb)
  os := hg.os
  out := hg.out
  froz b c ty fr hb hc := by
    by_cases h : b < w.heap.size
    · rw [heap_alloc_old h] at hc; exact hg.froz b c ty fr hb hc
    · have := lt_of_heap hc
      have e : b = w.heap.size := by simp at this; omega
      subst e
      rw [heap_alloc_new] at hc
      exact hfr c ty fr (by simpa using hc)
  dlt b hb := by have := hg.dlt b hb; simp; omega
  dn := hg.dn
  blt o e b k hb := by have := hg.blt o e b k hb; simp; omega
  inj := hg.inj
  nd b ds hb hN := by
    by_cases h : b < w.heap.size
    · rw [heap_alloc_old h] at hb; exact hg.nd b ds hb hN
    · exact ⟨fun hd => h (hg.dlt b hd), fun o e k hk => h (hg.blt o e b k hk).2⟩

/-- D with one block more. -/
def dAdd (D : Dom) (b : Nat) : Dom := fun x => D x ∨ x = b

/-- β with one epoch of one object more. -/
def bAdd (β : Bet) (o e b k : Nat) : Bet := fun o' e' => if o' = o ∧ e' = e then some (b, k) else β o' e'

theorem bAdd_same (β : Bet) (o e b k : Nat) : bAdd β o e b k o e = some (b, k) := by simp [bAdd]
theorem bAdd_other {β : Bet} {o e b k o' e' : Nat} (h : o' ≠ o) : bAdd β o e b k o' e' = β o' e' := by simp [bAdd, h]
theorem bAdd_cases {β : Bet} {o e b k o' e' : Nat} {y : Nat × Nat} (h : bAdd β o e b k o' e' = some y) : (o' = o ∧ e' = e ∧ y = (b, k)) ∨ (β o' e' = some y ∧ ¬ (o' = o ∧ e' = e)) := by
  unfold bAdd at h
  split at h
  · rename_i hc; exact .inl ⟨hc.1, hc.2, (Option.some.inj h).symm⟩
  · rename_i hc; exact .inr ⟨h, hc⟩

theorem GInv.dAdd (hg : GInv Z D β w) {b : Nat} (hb : b < w.heap.size) (hN : Z.N ≤ b) (hnd : ∀ ds, w.heap[b]? ≠ some (.deferred ds)) : GInv Z (dAdd D b) β w :=
  { hg with nd := fun x ds hx hn => ⟨fun hd => hd.elim (hg.nd x ds hx hn).1 (fun e => hnd ds (e ▸ hx)), (hg.nd x ds hx hn).2⟩, dlt := fun x hx => hx.elim (hg.dlt x) (fun e => e ▸ hb), dn := fun x hx hl => hx.elim (fun h => hg.dn x h hl) (fun e => by omega) }

theorem GInv.bAdd (hg : GInv Z D β w) {o e b k : Nat} (h0 : Z.N ≤ b) (h1 : b < w.heap.size) (hi : ∀ o' e' k', β o' e' = some (b, k') → o' = o) (hnd : ∀ ds, w.heap[b]? ≠ some (.deferred ds)) : GInv Z D (bAdd β o e b k) w :=
  { hg with
    nd := fun x ds hx hn => ⟨(hg.nd x ds hx hn).1, fun o' e' k' h => by
      rcases bAdd_cases h with ⟨_, _, h⟩ | ⟨h, _⟩
      · cases h; exact hnd ds hx
      · exact (hg.nd x ds hx hn).2 _ _ _ h⟩
    blt := fun o' e' b' k' h => by
      rcases bAdd_cases h with ⟨_, _, h⟩ | ⟨h, _⟩
      · cases h; exact ⟨h0, h1⟩
      · exact hg.blt _ _ _ _ h
    inj := fun o1 e1 b1 k1 o2 e2 k2 h h' => by
      rcases bAdd_cases h with ⟨q1, _, p1⟩ | ⟨p1, _⟩ <;> rcases bAdd_cases h' with ⟨q2, _, p2⟩ | ⟨p2, _⟩
      · rw [q1, q2]
      · cases p1; rw [q1]; exact (hi _ _ _ p2).symm
      · cases p2; rw [q2]; exact hi _ _ _ p1
      · exact hg.inj _ _ _ _ _ _ _ p1 p2 }

/-- A new block that is a tree's from now on. -/
theorem frm_alloc_D (hg : GInv Z D β w) (obj : Obj) : Frm S D β w (dAdd D w.heap.size) β (w.alloc obj) where
  ext := { ext_alloc obj hg.dlt with sub := fun b h => .inl h }
  fr o e b k _ hb := by
    have := (hg.blt o e b k hb).2
    exact ⟨heap_alloc_old this, fun h => h.elim id (fun e => by omega)⟩
  bt _ _ _ := rfl

theorem frm_alloc (hg : GInv Z D β w) (obj : Obj) : Frm S D β w D β (w.alloc obj) where
  ext := ext_alloc obj hg.dlt
  fr o e b k _ hb := ⟨heap_alloc_old (hg.blt o e b k hb).2, id⟩
  bt _ _ _ := rfl

theorem Frm.refl (D : Dom) (β : Bet) (w : World) : Frm S D β w D β w := ⟨.refl D β w, fun _ _ _ _ _ _ => ⟨rfl, id⟩, fun _ _ _ => rfl⟩

theorem Frm.trans (h : Frm S D β w D' β' w') (h' : Frm S D' β' w' D'' β'' w'') : Frm S D β w D'' β'' w'' where
  ext := h.ext.trans h'.ext
  fr o e b k ho hb := by
    obtain ⟨h1, h2⟩ := h.fr o e b k ho hb
    obtain ⟨h3, h4⟩ := h'.fr o e b k ho ((h.bt o e ho).trans hb)
    exact ⟨h3.trans h1, fun x => h2 (h4 x)⟩
  bt o e ho := (h'.bt o e ho).trans (h.bt o e ho)

theorem Frm.mono {S' : Nat → Prop} (h : Frm S D β w D' β' w') (hs : ∀ o, S o → S' o) : Frm S' D β w D' β' w' :=
  ⟨h.ext, fun o e b k ho hb => h.fr o e b k (fun x => ho (hs o x)) hb, fun o e ho => h.bt o e (fun x => ho (hs o x))⟩

/-- One more epoch of an object of S. -/
theorem frm_bAdd {o e b k : Nat} (ho : S o) (hn : β o e = none) : Frm S D β w D (bAdd β o e b k) w where
  ext := ⟨fun _ h => h, fun _ _ => rfl, fun o' e' x h => by
      unfold bAdd
      rw [if_neg (by rintro ⟨rfl, rfl⟩; rw [hn] at h; cases h)]
      exact h, fun _ _ h => h, fun _ _ h => h, fun _ L h => ⟨L, h⟩, Nat.le_refl _⟩
  fr _ _ _ _ _ _ := ⟨rfl, id⟩
  bt o' e' ho' := by
    unfold bAdd
    rw [if_neg]
    rintro ⟨rfl, rfl⟩; exact ho' ho

theorem frm_drew (hg : GInv Z D β w) (n : Nat) : Frm S D β w D β { w with drawn := n } ∧ GInv Z D β { w with drawn := n } :=
  ⟨⟨⟨fun _ h => h, fun _ _ => rfl, fun _ _ _ h => h, fun _ _ h => h, fun _ _ h => h, fun _ L h => ⟨L, h⟩, Nat.le_refl _⟩, fun _ _ _ _ _ _ => ⟨rfl, id⟩, fun _ _ _ => rfl⟩,
   ⟨hg.size0, hg.old, hg.os, hg.out, hg.froz, hg.dlt, hg.dn, hg.blt, hg.inj, hg.nd⟩⟩

/-- Cells written in one block of an object of S. -/
theorem frm_wrote (hg : GInv Z D β w) {o e b k off : Nat} {vs : List Value} {c : Array Value} {ty : TypeId} (ho : S o) (hb : β o e = some (b, k)) (hD : ¬ D b)
    (hc : w.heap[b]? = some (.cells c ty (0, 0))) (hl : off + vs.length ≤ c.size) : Frm S D β w D β (wrote w b off vs) ∧ GInv Z D β (wrote w b off vs) := by
  obtain ⟨e1, e2, e3, e4, c', e5, e6, e7⟩ := wrote_facts vs w b off c ty (0, 0) hc hl
  refine ⟨⟨⟨fun _ h => h, fun x hx => e4 x (fun h => hD (h ▸ hx)), fun _ _ _ h => h, fun x n hn => ?_, fun x ds hx => ?_, fun x L hx => ⟨L, ?_⟩, by rw [e1]; exact Nat.le_refl _⟩, fun o' e' b' k' ho' hb' => ?_, fun _ _ _ => rfl⟩, ?_⟩
  · by_cases hx : x = b
    · subst hx
      simp only [rowSize, hc] at hn
      simp only [rowSize, e5, e6]
      exact hn
    · simp only [rowSize, e4 x hx]; exact hn
  · rw [e4 x (fun h => by subst h; rw [hc] at hx; cases hx)]; exact hx
  · rw [e4 x (fun h => by subst h; rw [hc] at hx; cases hx)]; exact hx
  · refine ⟨e4 b' (fun h => ?_), id⟩
    subst h
    exact ho' (hg.inj _ _ _ _ _ _ _ hb' hb ▸ ho)
  · have hN := (hg.blt o e b k hb).1
    exact ⟨by rw [e1]; exact hg.size0, fun x hx => (e4 x (by omega)).trans (hg.old x hx), e2.trans hg.os, e3.trans hg.out,
      fun x c2 ty2 fr hx hc2 => by
        by_cases h : x = b
        · subst h; rw [e5] at hc2; cases hc2; rfl
        · rw [e4 x h] at hc2; exact hg.froz x c2 ty2 fr hx hc2,
      fun x hx => by rw [e1]; exact hg.dlt x hx, hg.dn, fun o' e' b' k' h => by rw [e1]; exact hg.blt o' e' b' k' h, hg.inj,
      fun x ds hx hn => by
        by_cases h : x = b
        · subst h; rw [e5] at hx; cases hx
        · rw [e4 x h] at hx; exact hg.nd x ds hx hn⟩

/-- A map or a loop's record put anew. -/
theorem frm_putObj (hg : GInv Z D β w) {o e b k : Nat} {x y : Obj} (ho : S o) (hb : β o e = some (b, k)) (hD : ¬ D b) (hx : w.heap[b]? = some x)
    (nx : ∀ c ty fr, x ≠ .cells c ty fr) (nd : ∀ ds, x ≠ .deferred ds) (ny : ∀ c ty fr, y ≠ .cells c ty fr) (yd : ∀ ds, y ≠ .deferred ds) (nl : ∀ L, x = .loop L → ∃ L', y = .loop L') : Frm S D β w D β (w.putObj b y) ∧ GInv Z D β (w.putObj b y) := by
  have hlt := lt_of_heap hx
  have hother : ∀ x', x' ≠ b → (w.putObj b y).heap[x']? = w.heap[x']? := fun x' h => World.putObj_heap_other h
  have hsame : (w.putObj b y).heap[b]? = some y := World.putObj_heap_same hlt
  have hsz : (w.putObj b y).heap.size = w.heap.size := by simp [World.putObj]
  refine ⟨⟨⟨fun _ h => h, fun x' hx' => hother x' (fun h => hD (h ▸ hx')), fun _ _ _ h => h, fun x' n hn => ?_, fun x' ds hx' => ?_, fun x' L hx' => ?_, by rw [hsz]; exact Nat.le_refl _⟩, fun o' e' b' k' ho' hb' => ?_, fun _ _ _ => rfl⟩, ?_⟩
  · by_cases h : x' = b
    · subst h
      simp only [rowSize, hx] at hn
      cases x with
      | cells c ty fr => exact absurd rfl (nx c ty fr)
      | _ => simp at hn
    · simp only [rowSize, hother x' h]; exact hn
  · rw [hother x' (fun h => by subst h; rw [hx] at hx'; cases hx'; exact nd ds rfl)]; exact hx'
  · by_cases h : x' = b
    · subst h
      rw [hx] at hx'
      cases hx'
      obtain ⟨L', hL'⟩ := nl L rfl
      exact ⟨L', by rw [hsame, hL']⟩
    · exact ⟨L, (hother x' h).trans hx'⟩
  · refine ⟨hother b' (fun h => ?_), id⟩
    subst h
    exact ho' (hg.inj _ _ _ _ _ _ _ hb' hb ▸ ho)
  · have hN := (hg.blt o e b k hb).1
    exact ⟨by rw [hsz]; exact hg.size0, fun x' hx' => (hother x' (by omega)).trans (hg.old x' hx'), hg.os, hg.out,
      fun x' c2 ty2 fr hx' hc2 => by
        by_cases h : x' = b
        · subst h; rw [hsame] at hc2; cases hc2; exact absurd rfl (ny _ _ _)
        · rw [hother x' h] at hc2; exact hg.froz x' c2 ty2 fr hx' hc2,
      fun x' hx' => by rw [hsz]; exact hg.dlt x' hx', hg.dn, fun o' e' b' k' h => by rw [hsz]; exact hg.blt o' e' b' k' h, hg.inj,
      fun x' ds hx' hn => by
        by_cases h : x' = b
        · subst h; rw [hsame] at hx'; cases hx'; exact absurd rfl (yd _)
        · rw [hother x' h] at hx'; exact hg.nd x' ds hx' hn⟩

end Go.Abs
