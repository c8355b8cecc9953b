/- Rounds of elections: the plain law. -/
import Derived.Test.YtboknhdkadcaeaaElE
import Derived.Test.YtboknhdkadcaeaaAbsCmp
namespace Go.Proofs.Ytboknhdkadcaeaa
open Go Go.Abs
set_option linter.unusedSimpArgs false
set_option linter.unusedVariables false

structure Vc where
  m : Ms
  st : Int
  sn : Int
  ln : Int
  deriving DecidableEq
/-- What node j offers over link k. -/
def off1 (v : List Vc) (kj : Int × Int) : Option Vc := match v[kj.2.toNat]? with
  | some w => if 12 ≤ w.st + 1 then none else some ⟨w.m, w.st + 1, kj.2, kj.1⟩
  | none => none
def nxO {σ : Type} (v : List Vc) (nx : σ → Vc → σ) (s : σ) (kj : Int × Int) : σ := match off1 v kj with
  | some w => nx s w
  | none => s

/-! The order of vectors -/
def ms6 (m : Ms) : List Int := [m.p1, m.cl, m.ac, m.va, m.p2, m.id]
def vc9 (v : Vc) : List Int := [v.m.p1, v.m.cl, v.m.ac, v.m.va, v.m.p2, v.m.id, v.st, v.sn, v.ln]
def cmpM (a b : Ms) : Int := cmpL (ms6 a) (ms6 b)
def cmpV (a b : Vc) : Int := cmpL (vc9 a) (vc9 b)
theorem cmpL_app : ∀ (xs ys us vs : List Int), xs.length = ys.length → cmpL (xs ++ us) (ys ++ vs) = if cmpL xs ys = 0 then cmpL us vs else cmpL xs ys := by
  intro xs
  induction xs with
  | nil => intro ys us vs h; cases ys with
    | nil => simp [cmpL]
    | cons y ys => simp at h
  | cons x xs ih =>
    intro ys us vs h
    cases ys with
    | nil => simp at h
    | cons y ys =>
      simp only [List.cons_append, cmpL, ih ys us vs (by simpa using h)]
      by_cases h0 : cmp3 x y = 0
      · simp [h0]
      · simp [h0]
theorem cmpM_self (a : Ms) : cmpM a a = 0 := cmpL_self _
theorem cmpM_neg (a b : Ms) : cmpM b a = - cmpM a b := cmpL_neg _ _
theorem cmpM_zero {a b : Ms} : cmpM a b = 0 ↔ a = b := by
  rw [cmpM, cmpL_zero (ms6 a) (ms6 b) rfl]
  obtain ⟨a0, a1, a2, a3, a4, a5⟩ := a
  obtain ⟨b0, b1, b2, b3, b4, b5⟩ := b
  simp [ms6]
theorem cmpM_trans {a b c : Ms} (h1 : cmpM a b ≤ 0) (h2 : cmpM b c ≤ 0) : cmpM a c ≤ 0 := (cmpL_trans (ms6 a) (ms6 b) (ms6 c) rfl rfl h1 h2).1
theorem cmpV_neg (a b : Vc) : cmpV b a = - cmpV a b := cmpL_neg _ _
theorem cmpV_self (a : Vc) : cmpV a a = 0 := cmpL_self _
theorem cmpV_zero {a b : Vc} : cmpV a b = 0 ↔ a = b := by
  rw [cmpV, cmpL_zero (vc9 a) (vc9 b) rfl]
  obtain ⟨⟨a0, a1, a2, a3, a4, a5⟩, a6, a7, a8⟩ := a
  obtain ⟨⟨b0, b1, b2, b3, b4, b5⟩, b6, b7, b8⟩ := b
  simp [vc9]
  constructor <;> (intro h; simp [h])
theorem cmpV_trans {a b c : Vc} (h1 : cmpV a b ≤ 0) (h2 : cmpV b c ≤ 0) : cmpV a c ≤ 0 := (cmpL_trans (vc9 a) (vc9 b) (vc9 c) rfl rfl h1 h2).1
theorem cmpV_eq (a b : Vc) : cmpV a b = if cmpM a.m b.m = 0 then cmpL [a.st, a.sn, a.ln] [b.st, b.sn, b.ln] else cmpM a.m b.m := cmpL_app (ms6 a.m) (ms6 b.m) _ _ rfl
theorem cmp_3 (a b c x y z : Int) : cmpL [a, b, c] [x, y, z] ≤ 0 ↔ a < x ∨ a = x ∧ (b < y ∨ b = y ∧ c ≤ z) := by
  simp only [cmpL, cmp3]
  split <;> split <;> (try split) <;> (try split) <;> (try split) <;> (try split) <;> (try split) <;> (try split) <;> omega
/-- a is not after b. -/
theorem cmpV_le {a b : Vc} : cmpV a b ≤ 0 ↔ cmpM a.m b.m < 0 ∨ a.m = b.m ∧ (a.st < b.st ∨ a.st = b.st ∧ (a.sn < b.sn ∨ a.sn = b.sn ∧ a.ln ≤ b.ln)) := by
  rw [cmpV_eq, ← cmp_3]
  by_cases h : cmpM a.m b.m = 0
  · rw [if_pos h, cmpM_zero.1 h, cmpM_self]; simp
  · rw [if_neg h]
    have : ¬ a.m = b.m := fun q => h (cmpM_zero.2 q)
    simp only [this, false_and, or_false]
    omega

def better (b w : Vc) : Vc := if cmpV w b < 0 then w else b
theorem better_min (l : List Vc) : ∀ b : Vc, (l.foldl better b = b ∨ l.foldl better b ∈ l) ∧ cmpV (l.foldl better b) b ≤ 0 ∧ ∀ y ∈ l, cmpV (l.foldl better b) y ≤ 0 := by
  induction l with
  | nil => intro b; simp [cmpV_self]
  | cons w l ih =>
    intro b
    rw [List.foldl_cons]
    obtain ⟨h1, h2, h3⟩ := ih (better b w)
    have hb : cmpV (better b w) b ≤ 0 ∧ cmpV (better b w) w ≤ 0 ∧ (better b w = b ∨ better b w = w) := by
      unfold better
      by_cases h : cmpV w b < 0
      · rw [if_pos h, cmpV_self]; exact ⟨by omega, by omega, .inr rfl⟩
      · rw [if_neg h, cmpV_self]; rw [cmpV_neg] at h; exact ⟨by omega, by omega, .inl rfl⟩
    refine ⟨?_, cmpV_trans h2 hb.1, ?_⟩
    · rcases h1 with h1 | h1
      · rw [h1]
        rcases hb.2.2 with h | h
        · exact .inl h
        · exact .inr (by rw [h]; simp)
      · exact .inr (List.mem_cons_of_mem _ h1)
    · intro y hy
      cases hy with
      | head => exact cmpV_trans h2 hb.2.1
      | tail _ hy => exact h3 y hy

/-! Neighbours and offers -/
/-- Link k joins the nodes i and j. -/
def Adj (lk : List (Int × Int)) (k i j : Nat) : Prop := lk[k]? = some ((i : Int), (j : Int)) ∨ lk[k]? = some ((j : Int), (i : Int))
theorem Adj.symm {lk : List (Int × Int)} {k i j : Nat} (h : Adj lk k i j) : Adj lk k j i := Or.symm h
theorem mem_nbs {i : Int} {x : Int × Int} : ∀ {lk : List (Int × Int)} {k0 : Nat}, x ∈ nbs i k0 lk ↔ ∃ (k : Nat) (l : Int × Int), lk[k]? = some l ∧ x.1 = ((k0 + k : Nat) : Int) ∧ (l.1 = i ∧ x.2 = l.2 ∨ l.2 = i ∧ x.2 = l.1) := by
  intro lk
  induction lk with
  | nil => intro k0; simp [nbs]
  | cons l r ih =>
    intro k0
    rw [nbs, List.mem_append, ih]
    constructor
    · rintro (h | ⟨k, l', h1, h2, h3⟩)
      · refine ⟨0, l, rfl, ?_⟩
        simp only [nb1, List.mem_append] at h
        rcases h with h | h
        · by_cases q : l.1 = i
          · rw [if_pos q] at h; simp at h; subst h; simp [q]
          · rw [if_neg q] at h; simp at h
        · by_cases q : l.2 = i
          · rw [if_pos q] at h; simp at h; subst h; simp [q]
          · rw [if_neg q] at h; simp at h
      · exact ⟨k + 1, l', by simpa using h1, by rw [h2]; omega, h3⟩
    · rintro ⟨k, l', h1, h2, h3⟩
      cases k with
      | zero =>
        left
        simp only [List.getElem?_cons_zero, Option.some.injEq] at h1
        subst h1
        obtain ⟨x1, x2⟩ := x
        simp only [Nat.add_zero] at h2
        simp only at h3
        simp only [nb1, List.mem_append]
        rcases h3 with h3 | h3
        · left; rw [if_pos h3.1]; simp [h2, h3.2]
        · right; rw [if_pos h3.1]; simp [h2, h3.2]
      | succ k => exact .inr ⟨k, l', by simpa using h1, by rw [h2]; omega, h3⟩
theorem nxO_foldl (v : List Vc) (nx : Vc → Vc → Vc) : ∀ (l : List (Int × Int)) (s : Vc), l.foldl (nxO v nx) s = (l.filterMap (off1 v)).foldl nx s := by
  intro l
  induction l with
  | nil => intro s; rfl
  | cons x l ih =>
    intro s
    rw [List.foldl_cons, ih, List.filterMap_cons, nxO]
    cases off1 v x with
    | none => rfl
    | some w => rfl

def msAt (ms : List Ms) (i : Nat) : Ms := ms[i]?.getD ⟨0, 0, 0, 0, 0, 0⟩
def ownV (ms : List Ms) (i : Nat) : Vc := ⟨msAt ms i, 0, i, -1⟩
def vAt (v : List Vc) (i : Nat) : Vc := v[i]?.getD ⟨⟨0, 0, 0, 0, 0, 0⟩, 0, 0, 0⟩
def bestAt (ms : List Ms) (lk : List (Int × Int)) (v : List Vc) (i : Nat) : Vc := (nbs i 0 lk).foldl (nxO v better) (ownV ms i)
def roundL (ms : List Ms) (lk : List (Int × Int)) (v : List Vc) : List Vc := (List.range ms.length).map (bestAt ms lk v)
def ownL (ms : List Ms) : List Vc := (List.range ms.length).map (ownV ms)
def roundsL (ms : List Ms) (lk : List (Int × Int)) : Nat → List Vc → List Vc
  | 0, v => v
  | t + 1, v => roundL ms lk (roundsL ms lk t v)
theorem roundsL_first (ms : List Ms) (lk : List (Int × Int)) : ∀ (t : Nat) (v : List Vc), roundsL ms lk t (roundL ms lk v) = roundsL ms lk (t + 1) v := by
  intro t
  induction t with
  | zero => intro v; rfl
  | succ t ih => intro v; rw [roundsL, ih]; rfl
theorem roundsL_add (ms : List Ms) (lk : List (Int × Int)) (s : Nat) : ∀ (t : Nat) (v : List Vc), roundsL ms lk (t + s) v = roundsL ms lk t (roundsL ms lk s v) := by
  intro t
  induction t with
  | zero => intro v; rw [Nat.zero_add]; rfl
  | succ t ih => intro v; rw [Nat.succ_add, roundsL, ih]; rfl
theorem roundL_len (ms : List Ms) (lk : List (Int × Int)) (v : List Vc) : (roundL ms lk v).length = ms.length := by simp [roundL]
theorem roundL_at {ms : List Ms} {lk : List (Int × Int)} {v : List Vc} {i : Nat} (hi : i < ms.length) : vAt (roundL ms lk v) i = bestAt ms lk v i := by
  simp [vAt, roundL, List.getElem?_map, List.getElem?_range hi]

/-- A valid network: what the laws need of it. -/
structure Net (ms : List Ms) (lk : List (Int × Int)) : Prop where
  ids : ∀ i j : Nat, i < ms.length → j < ms.length → msAt ms i = msAt ms j → i = j
  len : ms.length ≤ 12
  lks : ∀ (k : Nat) (l : Int × Int), lk[k]? = some l → ∃ i j : Nat, l = ((i : Int), (j : Int)) ∧ i < ms.length ∧ j < ms.length ∧ i ≠ j

section
variable {ms : List Ms} {lk : List (Int × Int)} (hn : Net ms lk)
include hn

theorem adj_of {k i j : Nat} (h : Adj lk k i j) : i < ms.length ∧ j < ms.length ∧ i ≠ j := by
  rcases h with h | h
  · obtain ⟨a, b, h1, h2, h3, h4⟩ := hn.lks k _ h
    simp only [Prod.mk.injEq] at h1; omega
  · obtain ⟨a, b, h1, h2, h3, h4⟩ := hn.lks k _ h
    simp only [Prod.mk.injEq] at h1; omega

theorem mem_offers {v : List Vc} (hv : v.length = ms.length) {i : Nat} {x : Vc} : x ∈ (nbs i 0 lk).filterMap (off1 v) ↔ ∃ k j : Nat, Adj lk k i j ∧ (vAt v j).st + 1 < 12 ∧ x = ⟨(vAt v j).m, (vAt v j).st + 1, j, k⟩ := by
  rw [List.mem_filterMap]
  have key : ∀ (k j : Nat), j < ms.length → (off1 v ((k : Int), (j : Int)) = some x ↔ (vAt v j).st + 1 < 12 ∧ x = ⟨(vAt v j).m, (vAt v j).st + 1, j, k⟩) := by
    intro k j hj
    obtain ⟨w, hw⟩ : ∃ w, v[j]? = some w := ⟨v[j]'(by omega), by simp⟩
    simp only [off1, Int.toNat_natCast, hw, vAt, Option.getD_some]
    by_cases h : 12 ≤ w.st + 1
    · rw [if_pos h]; simp; omega
    · rw [if_neg h]; simp only [Option.some.injEq]
      constructor
      · intro q; exact ⟨by omega, q.symm⟩
      · intro q; exact q.2.symm
  constructor
  · rintro ⟨⟨k', j'⟩, h1, h2⟩
    obtain ⟨k, l, g1, g2, g3⟩ := mem_nbs.1 h1
    obtain ⟨a, b, rfl, ha, hb, hab⟩ := hn.lks k l g1
    simp only [Nat.zero_add] at g2 g3
    subst g2
    rcases g3 with ⟨q1, rfl⟩ | ⟨q1, rfl⟩
    · have : a = i := by omega
      subst this
      exact ⟨k, b, .inl g1, (key k b hb).1 h2⟩
    · have : b = i := by omega
      subst this
      exact ⟨k, a, .inr g1, (key k a ha).1 h2⟩
  · rintro ⟨k, j, h1, h2⟩
    have hj := (adj_of hn h1).2.1
    refine ⟨((k : Int), (j : Int)), mem_nbs.2 ?_, (key k j hj).2 h2⟩
    rcases h1 with h1 | h1
    · exact ⟨k, _, h1, by simp, .inl ⟨rfl, rfl⟩⟩
    · exact ⟨k, _, h1, by simp, .inr ⟨rfl, rfl⟩⟩

/-- The best of a node's own vector and its offers. -/
theorem bestAt_spec {v : List Vc} (hv : v.length = ms.length) (i : Nat) :
    (bestAt ms lk v i = ownV ms i ∨ ∃ k j : Nat, Adj lk k i j ∧ (vAt v j).st + 1 < 12 ∧ bestAt ms lk v i = ⟨(vAt v j).m, (vAt v j).st + 1, j, k⟩) ∧
    cmpV (bestAt ms lk v i) (ownV ms i) ≤ 0 ∧ ∀ k j : Nat, Adj lk k i j → (vAt v j).st + 1 < 12 → cmpV (bestAt ms lk v i) ⟨(vAt v j).m, (vAt v j).st + 1, j, k⟩ ≤ 0 := by
  obtain ⟨h1, h2, h3⟩ := better_min ((nbs i 0 lk).filterMap (off1 v)) (ownV ms i)
  rw [bestAt, nxO_foldl]
  refine ⟨h1.imp id (mem_offers hn hv).1, h2, ?_⟩
  intro k j ha hs
  exact h3 _ ((mem_offers hn hv).2 ⟨k, j, ha, hs, rfl⟩)
end

/-! Walks -/
def Walk (lk : List (Int × Int)) : Nat → Nat → Nat → Prop
  | 0, r, i => r = i
  | t + 1, r, i => ∃ j k, Adj lk k j i ∧ Walk lk t r j
theorem Walk.first {lk : List (Int × Int)} {k a r : Nat} (ha : Adj lk k a r) : ∀ {t i : Nat}, Walk lk t r i → Walk lk (t + 1) a i := by
  intro t
  induction t with
  | zero => intro i h; cases h; exact ⟨a, k, ha, rfl⟩
  | succ t ih => rintro i ⟨j, k', h1, h2⟩; exact ⟨j, k', h1, ih h2⟩
theorem Walk.symm {lk : List (Int × Int)} : ∀ {t r i : Nat}, Walk lk t r i → Walk lk t i r := by
  intro t
  induction t with
  | zero => intro r i h; exact Eq.symm h
  | succ t ih => rintro r i ⟨j, k, h1, h2⟩; exact (ih h2).first h1.symm
theorem Walk.add {lk : List (Int × Int)} {s a b : Nat} (h : Walk lk s a b) : ∀ {t c : Nat}, Walk lk t b c → Walk lk (s + t) a c := by
  intro t
  induction t with
  | zero => intro c q; cases q; exact h
  | succ t ih => rintro c ⟨j, k, h1, h2⟩; exact ⟨j, k, h1, ih h2⟩
def Reach (lk : List (Int × Int)) (r i : Nat) : Prop := ∃ t, Walk lk t r i
def Dist (lk : List (Int × Int)) (r i d : Nat) : Prop := Walk lk d r i ∧ ∀ e, Walk lk e r i → d ≤ e
theorem Reach.symm {lk : List (Int × Int)} {r i : Nat} (h : Reach lk r i) : Reach lk i r := let ⟨t, h⟩ := h; ⟨t, h.symm⟩
theorem Reach.trans {lk : List (Int × Int)} {a b c : Nat} (h : Reach lk a b) (g : Reach lk b c) : Reach lk a c := let ⟨s, h⟩ := h; let ⟨t, g⟩ := g; ⟨s + t, h.add g⟩
theorem Reach.refl {lk : List (Int × Int)} (a : Nat) : Reach lk a a := ⟨0, rfl⟩
theorem Dist.symm {lk : List (Int × Int)} {r i d : Nat} (h : Dist lk r i d) : Dist lk i r d := ⟨h.1.symm, fun e g => h.2 e g.symm⟩
theorem Dist.uniq {lk : List (Int × Int)} {r i d e : Nat} (h : Dist lk r i d) (g : Dist lk r i e) : d = e := Nat.le_antisymm (h.2 e g.1) (g.2 d h.1)
theorem dist_of {lk : List (Int × Int)} {r i : Nat} : ∀ {t : Nat}, Walk lk t r i → ∃ d, d ≤ t ∧ Dist lk r i d := by
  intro t
  induction t using Nat.strongRecOn with
  | _ t ih =>
    intro h
    by_cases q : ∃ e, e < t ∧ Walk lk e r i
    · obtain ⟨e, h1, h2⟩ := q
      obtain ⟨d, h3, h4⟩ := ih e h1 h2
      exact ⟨d, by omega, h4⟩
    · refine ⟨t, Nat.le_refl _, h, fun e he => ?_⟩
      apply Decidable.byContradiction
      intro q'
      exact q ⟨e, by omega, he⟩
/-- The node before, on a shortest walk. -/
theorem Dist.pred {lk : List (Int × Int)} {r i d : Nat} (h : Dist lk r i (d + 1)) : ∃ k j, Adj lk k i j ∧ Dist lk r j d := by
  obtain ⟨⟨j, k, h1, h2⟩, h3⟩ := h
  refine ⟨k, j, h1.symm, h2, fun e he => ?_⟩
  have := h3 (e + 1) ⟨j, k, h1, he⟩
  omega
/-- Every node on a shortest walk. -/
theorem Dist.mid {lk : List (Int × Int)} {r : Nat} : ∀ {d i : Nat}, Dist lk r i d → ∀ e, e ≤ d → ∃ j, Dist lk r j e := by
  intro d
  induction d with
  | zero => intro i h e he; exact ⟨i, by rwa [Nat.le_zero.1 he]⟩
  | succ d ih =>
    intro i h e he
    by_cases q : e = d + 1
    · subst q; exact ⟨i, h⟩
    · obtain ⟨k, j, h1, h2⟩ := h.pred
      exact ih h2 e (by omega)

theorem pigeon : ∀ (n d : Nat) (f : Nat → Nat), (∀ a, a ≤ d → f a < n) → (∀ a b, a ≤ d → b ≤ d → f a = f b → a = b) → d < n := by
  intro n
  induction n with
  | zero => intro d f h _; exact absurd (h 0 (Nat.zero_le _)) (by omega)
  | succ n ih =>
    intro d f h hi
    cases d with
    | zero => omega
    | succ d =>
      refine Nat.succ_lt_succ (ih d (fun a => if f a = n then f (d + 1) else f a) ?_ ?_)
      · intro a ha
        have h1 := h a (by omega)
        have h2 := h (d + 1) (Nat.le_refl _)
        have h3 := hi a (d + 1) (by omega) (Nat.le_refl _)
        show (if f a = n then f (d + 1) else f a) < n
        split
        · rename_i q
          have : f (d + 1) ≠ n := fun q' => by have := h3 (by omega); omega
          omega
        · omega
      · intro a b ha hb q
        have h1 := hi a b (by omega) (by omega)
        have h2 := hi a (d + 1) (by omega) (Nat.le_refl _)
        have h3 := hi b (d + 1) (by omega) (Nat.le_refl _)
        change (if f a = n then f (d + 1) else f a) = (if f b = n then f (d + 1) else f b) at q
        split at q <;> split at q
        · exact h1 (by omega)
        · have := h3 q.symm; omega
        · have := h2 q; omega
        · exact h1 q

section
variable {ms : List Ms} {lk : List (Int × Int)} (hn : Net ms lk)
include hn

theorem walk_lt {t r i : Nat} (h : Walk lk t r i) (hr : r < ms.length) : i < ms.length := by
  cases t with
  | zero => cases h; exact hr
  | succ t => obtain ⟨j, k, h1, h2⟩ := h; exact (adj_of hn h1).2.1
/-- A distance is below the number of nodes. -/
theorem Dist.lt {r i d : Nat} (h : Dist lk r i d) (hr : r < ms.length) : d < ms.length := by
  have hm := h.mid
  refine pigeon ms.length d (fun e => if h : e ≤ d then Classical.choose (hm e h) else 0) ?_ ?_
  · intro a ha
    simp only [dif_pos ha]
    exact walk_lt hn (Classical.choose_spec (hm a ha)).1 hr
  · intro a b ha hb q
    simp only [dif_pos ha, dif_pos hb] at q
    have h1 := Classical.choose_spec (hm a ha)
    have h2 := Classical.choose_spec (hm b hb)
    rw [q] at h1
    exact h1.uniq h2

/-- A vector that tells of a node that can be reached, and of a walk to it. -/
def Sound (ms : List Ms) (lk : List (Int × Int)) (i : Nat) (x : Vc) : Prop := ∃ r t : Nat, r < ms.length ∧ x.m = msAt ms r ∧ x.st = (t : Nat) ∧ Walk lk t r i
/-- r is the best node that i reaches. -/
def Top (ms : List Ms) (lk : List (Int × Int)) (r i : Nat) : Prop := r < ms.length ∧ Reach lk r i ∧ ∀ q, q < ms.length → Reach lk q i → cmpM (msAt ms r) (msAt ms q) ≤ 0
/-- The vector to which rounds lead. -/
def Fin' (ms : List Ms) (lk : List (Int × Int)) (i : Nat) (x : Vc) : Prop := ∃ r d : Nat, Top ms lk r i ∧ Dist lk r i d ∧ x.m = msAt ms r ∧ x.st = (d : Nat) ∧
  (d = 0 → x.sn = (i : Nat) ∧ x.ln = -1) ∧ (d ≠ 0 → ∃ k j : Nat, x.sn = (j : Nat) ∧ x.ln = (k : Nat) ∧ Adj lk k i j ∧ Dist lk r j (d - 1) ∧ ∀ k' j' : Nat, Adj lk k' i j' → Dist lk r j' (d - 1) → j < j' ∨ j = j' ∧ k ≤ k')

theorem top_uniq {r q i : Nat} (h : Top ms lk r i) (g : Top ms lk q i) : r = q := by
  have h1 := h.2.2 q g.1 g.2.1
  have h2 := g.2.2 r h.1 h.2.1
  rw [cmpM_neg] at h2
  exact hn.ids r q h.1 g.1 (cmpM_zero.1 (by omega))
omit hn in
theorem top_of_reach {r i j : Nat} (h : Top ms lk r i) (g : Reach lk i j) : Top ms lk r j :=
  ⟨h.1, h.2.1.trans g, fun q hq hr => h.2.2 q hq (hr.trans g.symm)⟩
theorem fin_uniq {i : Nat} {x y : Vc} (h : Fin' ms lk i x) (g : Fin' ms lk i y) : x = y := by
  obtain ⟨r, d, h1, h2, h3, h4, h5, h6⟩ := h
  obtain ⟨r', d', g1, g2, g3, g4, g5, g6⟩ := g
  obtain rfl := top_uniq hn h1 g1
  obtain rfl := h2.uniq g2
  obtain ⟨xm, xs, xn, xl⟩ := x
  obtain ⟨ym, ys, yn, yl⟩ := y
  simp only at *
  subst h3 g3 h4 g4
  by_cases hd : d = 0
  · have := h5 hd; have := g5 hd
    simp only [Vc.mk.injEq, true_and]; omega
  · obtain ⟨k, j, q1, q2, q3, q4, q5⟩ := h6 hd
    obtain ⟨k', j', p1, p2, p3, p4, p5⟩ := g6 hd
    have := q5 _ _ p3 p4
    have := p5 _ _ q3 q4
    simp only [Vc.mk.injEq, true_and]; omega

omit hn in
theorem sound_own {i : Nat} (hi : i < ms.length) : Sound ms lk i (ownV ms i) := ⟨i, 0, hi, rfl, rfl, rfl⟩
/-- After t rounds a vector is sound, or its steps are at least t. -/
theorem ghosts {v : List Vc} (hv : v.length = ms.length) (hs : ∀ i, i < ms.length → 0 ≤ (vAt v i).st) : ∀ (t : Nat) (i : Nat), i < ms.length → (Sound ms lk i (vAt (roundsL ms lk t v) i) ∨ (t : Int) ≤ (vAt (roundsL ms lk t v) i).st) ∧ (roundsL ms lk t v).length = ms.length ∧ (t ≠ 0 → (vAt (roundsL ms lk t v) i).st < 12) := by
  intro t
  induction t with
  | zero => intro i hi; exact ⟨.inr (hs i hi), hv, by omega⟩
  | succ t ih =>
    intro i hi
    rw [roundsL, roundL_at hi]
    refine ⟨?_, roundL_len _ _ _, fun _ => ?_⟩
    · obtain ⟨h1, h2, h3⟩ := bestAt_spec hn (ih i hi).2.1 i
      rcases h1 with h1 | ⟨k, j, ha, hj, h1⟩
      · rw [h1]; exact .inl (sound_own hi)
      · rw [h1]
        rcases (ih j (adj_of hn ha).2.1).1 with ⟨r, s, g1, g2, g3, g4⟩ | g
        · exact .inl ⟨r, s + 1, g1, g2, by simp only [g3]; omega, ⟨j, k, ha.symm, g4⟩⟩
        · right; simp only; omega
    · obtain ⟨h1, h2, h3⟩ := bestAt_spec hn (ih i hi).2.1 i
      rcases h1 with h1 | ⟨k, j, ha, hj, h1⟩
      · rw [h1]; simp [ownV]
      · rw [h1]; simp only; omega
theorem all_sound {v : List Vc} (hv : v.length = ms.length) (hs : ∀ i, i < ms.length → 0 ≤ (vAt v i).st) : ∀ i, i < ms.length → Sound ms lk i (vAt (roundsL ms lk 12 v) i) := by
  intro i hi
  obtain ⟨h1, h2, h3⟩ := ghosts hn hv hs 12 i hi
  have := h3 (by omega)
  rcases h1 with h1 | h1
  · exact h1
  · omega
theorem sound_round {v : List Vc} (hv : v.length = ms.length) (hs : ∀ i, i < ms.length → Sound ms lk i (vAt v i)) : ∀ i, i < ms.length → Sound ms lk i (bestAt ms lk v i) := by
  intro i hi
  obtain ⟨h1, h2, h3⟩ := bestAt_spec hn hv i
  rcases h1 with h1 | ⟨k, j, ha, hj, h1⟩
  · rw [h1]; exact sound_own hi
  · rw [h1]
    obtain ⟨r, s, g1, g2, g3, g4⟩ := hs j (adj_of hn ha).2.1
    exact ⟨r, s + 1, g1, g2, by simp only [g3]; omega, ⟨j, k, ha.symm, g4⟩⟩

/-- From sound vectors on, t rounds lead the nodes within t links of their best node to their final vectors. -/
theorem final {v : List Vc} (hv : v.length = ms.length) (hs : ∀ i, i < ms.length → Sound ms lk i (vAt v i)) : ∀ (t : Nat), (roundsL ms lk t v).length = ms.length ∧ (∀ i, i < ms.length → Sound ms lk i (vAt (roundsL ms lk t v) i)) ∧
    ∀ i r d : Nat, i < ms.length → Top ms lk r i → Dist lk r i d → d < t → Fin' ms lk i (vAt (roundsL ms lk t v) i) := by
  intro t
  induction t with
  | zero => exact ⟨hv, hs, fun i r d _ _ _ h => by omega⟩
  | succ t ih =>
    obtain ⟨l1, l2, l3⟩ := ih
    rw [roundsL]
    generalize roundsL ms lk t v = w at *
    refine ⟨roundL_len _ _ _, fun i hi => by rw [roundL_at hi]; exact sound_round hn l1 l2 i hi, ?_⟩
    intro i r d hi ht hd hdt
    rw [roundL_at hi]
    obtain ⟨h1, h2, h3⟩ := bestAt_spec hn l1 i
    cases d with
    | zero =>
      obtain rfl : r = i := hd.1
      have hb : bestAt ms lk w r = ownV ms r := by
        rcases h1 with h1 | ⟨k, j, ha, hj, h1⟩
        · exact h1
        · exfalso
          obtain ⟨q, s, g1, g2, g3, g4⟩ := l2 j (adj_of hn ha).2.1
          rw [h1, cmpV_le] at h2
          have := ht.2.2 q g1 ⟨s + 1, ⟨j, k, ha.symm, g4⟩⟩
          rw [cmpM_neg] at this
          simp only [ownV, g2, g3] at h2
          omega
      rw [hb]
      exact ⟨r, 0, ht, hd, rfl, rfl, fun _ => ⟨rfl, rfl⟩, fun h => absurd rfl h⟩
    | succ d =>
      have hd12 := Dist.lt hn hd ht.1
      have hlen := hn.len
      have nbr : ∀ k j, Adj lk k i j → Dist lk r j d → (vAt w j).m = msAt ms r ∧ (vAt w j).st = (d : Nat) ∧ cmpV (bestAt ms lk w i) ⟨msAt ms r, (d : Int) + 1, j, k⟩ ≤ 0 := by
        intro k j ha hj
        have hjl := (adj_of hn ha).2.1
        have htj : Top ms lk r j := top_of_reach ht ⟨1, ⟨i, k, ha, rfl⟩⟩
        obtain ⟨r', d', g1, g2, g3, g4, _⟩ := l3 j r d hjl htj hj (by omega)
        obtain rfl := top_uniq hn htj g1
        obtain rfl := hj.uniq g2
        refine ⟨g3, g4, ?_⟩
        have := h3 k j ha (by omega)
        rwa [g3, g4] at this
      obtain ⟨k0, j0, a0, d0⟩ := hd.pred
      have b0 := (nbr k0 j0 a0 d0).2.2
      rw [cmpV_le] at b0
      simp only at b0
      have hri : r ≠ i := by
        rintro rfl
        have := hd.2 0 rfl
        omega
      rcases h1 with h1 | ⟨k, j, ha, hj, h1⟩
      · exfalso
        rw [h1] at b0
        have h4 := ht.2.2 i hi (Reach.refl i)
        rw [cmpM_neg] at h4
        simp only [ownV] at b0
        rcases b0 with b0 | ⟨b0, _⟩
        · omega
        · exact hri (hn.ids r i ht.1 hi b0.symm)
      · obtain ⟨q, s, g1, g2, g3, g4⟩ := l2 j (adj_of hn ha).2.1
        have hqi : Walk lk (s + 1) q i := ⟨j, k, ha.symm, g4⟩
        rw [h1, g2, g3] at b0
        simp only at b0
        have hqr : q = r := by
          have h4 := ht.2.2 q g1 ⟨s + 1, hqi⟩
          rw [cmpM_neg] at h4
          rcases b0 with b0 | ⟨b0, _⟩
          · omega
          · exact hn.ids q r g1 ht.1 b0
        subst hqr
        have hds := hd.2 _ hqi
        rw [cmpM_self] at b0
        obtain rfl : s = d := by omega
        have hjd : Dist lk q j s := ⟨g4, fun e he => by have := hd.2 (e + 1) ⟨j, k, ha.symm, he⟩; omega⟩
        rw [h1, g2, g3]
        refine ⟨q, s + 1, ht, hd, rfl, by simp, fun h => by omega, fun _ => ⟨k, j, rfl, rfl, ha, hjd, ?_⟩⟩
        intro k' j' ha' hj'
        have := (nbr k' j' ha' hj').2.2
        rw [cmpV_le, h1, g2, g3, cmpM_self] at this
        simp only at this
        omega

omit hn in
theorem ownL_at {i : Nat} (hi : i < ms.length) : vAt (ownL ms) i = ownV ms i := by simp [vAt, ownL, List.getElem?_range hi]
omit hn in
/-- There is a best node. -/
theorem top_ex {i : Nat} (hi : i < ms.length) : ∃ r, Top ms lk r i := by
  have key : ∀ n, n ≤ ms.length → (∃ q, q < n ∧ Reach lk q i) → ∃ r, r < n ∧ Reach lk r i ∧ ∀ q, q < n → Reach lk q i → cmpM (msAt ms r) (msAt ms q) ≤ 0 := by
    intro n
    induction n with
    | zero => rintro _ ⟨q, h, _⟩; omega
    | succ n ih =>
      intro hn' ⟨q, hq, hr⟩
      by_cases h : ∃ q, q < n ∧ Reach lk q i
      · obtain ⟨r, h1, h2, h3⟩ := ih (by omega) h
        by_cases g : Reach lk n i ∧ cmpM (msAt ms n) (msAt ms r) < 0
        · refine ⟨n, by omega, g.1, fun p hp hpr => ?_⟩
          by_cases e : p = n
          · subst e; rw [cmpM_self]; exact Int.le_refl _
          · exact cmpM_trans (by omega) (h3 p (by omega) hpr)
        · refine ⟨r, by omega, h2, fun p hp hpr => ?_⟩
          by_cases e : p = n
          · subst e
            have : ¬ cmpM (msAt ms p) (msAt ms r) < 0 := fun q => g ⟨hpr, q⟩
            rw [cmpM_neg] at this; omega
          · exact h3 p (by omega) hpr
      · have : q = n := by
          apply Decidable.byContradiction
          intro e
          exact h ⟨q, by omega, hr⟩
        subst this
        refine ⟨q, by omega, hr, fun p hp hpr => ?_⟩
        by_cases e : p = q
        · subst e; rw [cmpM_self]; exact Int.le_refl _
        · exact absurd ⟨p, by omega, hpr⟩ h
  obtain ⟨r, h1, h2, h3⟩ := key ms.length (Nat.le_refl _) ⟨i, hi, Reach.refl i⟩
  exact ⟨r, h1, h2, h3⟩
theorem fin_after {v : List Vc} (hv : v.length = ms.length) (hs : ∀ i, i < ms.length → Sound ms lk i (vAt v i)) {t : Nat} (ht : 12 ≤ t) {i : Nat} (hi : i < ms.length) : Fin' ms lk i (vAt (roundsL ms lk t v) i) := by
  obtain ⟨r, hr⟩ := top_ex hi
  obtain ⟨s, hw⟩ := hr.2.1
  obtain ⟨d, _, hd⟩ := dist_of hw
  have := Dist.lt hn hd hr.1
  have := hn.len
  exact (final hn hv hs t).2.2 i r d hi hr hd (by omega)
/-- Elected vectors are final. -/
theorem elect_fin {i : Nat} (hi : i < ms.length) : Fin' ms lk i (vAt (roundsL ms lk 12 (ownL ms)) i) :=
  fin_after hn (by simp [ownL]) (fun i hi => by rw [ownL_at hi]; exact sound_own hi) (Nat.le_refl _) hi
omit hn in
theorem rounds_len {v : List Vc} (hv : v.length = ms.length) : ∀ t, (roundsL ms lk t v).length = ms.length := by
  intro t
  cases t with
  | zero => exact hv
  | succ t => rw [roundsL]; exact roundL_len _ _ _
omit hn in
theorem vAt_ext {v w : List Vc} (h : v.length = w.length) (h1 : ∀ i, i < v.length → vAt v i = vAt w i) : v = w := by
  apply List.ext_getElem? 
  intro i
  by_cases hi : i < v.length
  · have := h1 i hi
    rw [vAt, vAt, List.getElem?_eq_getElem hi, List.getElem?_eq_getElem (by omega)] at this
    rw [List.getElem?_eq_getElem hi, List.getElem?_eq_getElem (by omega)]
    simpa using this
  · rw [List.getElem?_eq_none (by omega), List.getElem?_eq_none (by omega)]
/-- Any vectors lead to the elected ones. -/
theorem settles {v : List Vc} (hv : v.length = ms.length) (hs : ∀ i, i < ms.length → 0 ≤ (vAt v i).st) {t : Nat} (ht : 24 ≤ t) : roundsL ms lk t v = roundsL ms lk 12 (ownL ms) := by
  obtain ⟨s, rfl⟩ : ∃ s, t = s + 12 := ⟨t - 12, by omega⟩
  have l2 : (roundsL ms lk 12 (ownL ms)).length = ms.length := rounds_len (by simp [ownL]) 12
  refine vAt_ext (by rw [rounds_len hv, l2]) ?_
  intro i hi
  rw [rounds_len hv] at hi
  rw [roundsL_add]
  exact fin_uniq hn (fin_after hn (rounds_len hv 12) (all_sound hn hv hs) (by omega) hi) (elect_fin hn hi)
end
end Go.Proofs.Ytboknhdkadcaeaa
