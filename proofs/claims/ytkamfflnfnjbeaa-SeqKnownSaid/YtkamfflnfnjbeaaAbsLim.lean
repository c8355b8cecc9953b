/- One oracle for all: what the evaluator over itself comes to in the end. Its answers are sound, and it is closed under evaluation. -/
import Derived.Test.YtkamfflnfnjbeaaAbsDrawE
set_option linter.unusedSimpArgs false
set_option linter.unusedVariables false
namespace Go.Abs
open Go

variable {P : Program} {pol : Pol}

/-- What holds in the end. -/
structure Flt (ι : Type) where
  ev : (ι → Prop) → Prop
  all : ∀ {p : ι → Prop}, (∀ x, p x) → ev p
  mono : ∀ {p q : ι → Prop}, ev p → (∀ x, p x → q x) → ev q
  both : ∀ {p q : ι → Prop}, ev p → ev q → ev (fun x => p x ∧ q x)

section
variable {ι : Type} {E : Flt ι} {K : Oracle} {I : Inl} {K' : ι → Oracle} {I' : ι → Inl} {n : Nat} {n' : ι → Nat} {f : FuncId}

theorem Flt.mono2 {p q r : ι → Prop} (hp : E.ev p) (hq : E.ev q) (h : ∀ x, p x → q x → r x) : E.ev r := E.mono (E.both hp hq) fun x hx => h x hx.1 hx.2

def LimK (E : Flt ι) (K : Oracle) (K' : ι → Oracle) : Prop := ∀ f ts r, K f ts = some r → E.ev fun x => K' x f ts = some r
def LimI (E : Flt ι) (I : Inl) (I' : ι → Inl) : Prop := ∀ g args h y, I g args h = some y → E.ev fun x => I' x g args h = some y

variable (hK : LimK E K K') (hI : LimI E I I') (hn : E.ev fun x => n ≤ n' x)
include hK hI

theorem lim_call {at_ : FuncId} {d : Tmp} {g : Tgt} {args : List AV} {h : Heap} {y : AV × Heap} (hc : aCall pol K I at_ d g args h = some y) : E.ev fun x => aCall pol (K' x) (I' x) at_ d g args h = some y := by
  unfold aCall at hc
  split at hc
  · exact E.mono (hI _ _ _ _ hc) fun x hx => by unfold aCall; exact hx
  · split at hc
    · rename_i hp
      exact E.mono (hI _ _ _ _ hc) fun x hx => by unfold aCall; simp only [hp, if_true]; exact hx
    · rename_i hp
      split at hc
      · rename_i ts hts
        split at hc
        · rename_i r hr
          exact E.mono (hK _ _ _ hr) fun x hx => by unfold aCall; simp only [hp, if_false, hts, hx]; exact hc
        · simp at hc
      · rename_i hts
        split at hc
        · rename_i ts hm
          split at hc
          · rename_i r hr
            exact E.mono (hK _ _ _ hr) fun x hx => by unfold aCall; simp only [hp, if_false, hts, hm, hx]; exact hc
          · simp at hc
        · rename_i hm
          exact E.mono (hI _ _ _ _ hc) fun x hx => by unfold aCall; simp only [hp, if_false, hts, hm]; exact hx

theorem lim_step1 {o : Oper} {env : Env} {h : Heap} {y : Env × Heap} (hs : aStep1 P pol K I f o env h = some y) : E.ev fun x => aStep1 P pol (K' x) (I' x) f o env h = some y := by
  unfold aStep1 at hs
  split at hs
  · rename_i ha
    exact E.all fun x => by unfold aStep1; simp only [ha]; exact hs
  · rename_i ha
    exact E.all fun x => by unfold aStep1; simp only [ha]; exact hs
  · rename_i g args ha
    split at hs
    · rename_i v h2 hc
      exact E.mono (lim_call hK hI hc) fun x hx => by unfold aStep1; simp only [ha, hx]; exact hs
    · simp at hs
  · simp at hs

theorem lim_step {o : Oper} {env : Env} {h : Heap} {y : Env × Heap} (hs : aStep P pol K I f o env h = some y) : E.ev fun x => aStep P pol (K' x) (I' x) f o env h = some y := by
  unfold aStep at hs
  split at hs
  · rename_i hp
    split at hs
    · rename_i e2 h2 hf
      exact E.mono (lim_step1 hK hI hs) fun x hx => by unfold aStep; simp only [hp, if_true, hf]; exact hx
    · simp at hs
  · rename_i hp
    exact E.mono (lim_step1 hK hI hs) fun x hx => by unfold aStep; simp only [hp]; exact hx

theorem lim_ops {ops : List Oper} : ∀ (rest : List Oper) {env : Env} {h : Heap} {y : Env × Heap}, aOps P pol K I f ops rest env h = some y → E.ev fun x => aOps P pol (K' x) (I' x) f ops rest env h = some y := by
  intro rest
  induction rest with
  | nil => intro env h y hs; exact E.all fun x => hs
  | cons o rest ih =>
    intro env h y hs
    unfold aOps at hs
    split at hs
    · rename_i b hb
      split at hs
      · rename_i hbt
        split at hs
        · rename_i e2 h2 hst
          exact E.mono2 (lim_step hK hI hst) (ih hs) fun x h1 h2 => by unfold aOps; simp only [hb, hbt, if_true, h1]; exact h2
        · simp at hs
      · rename_i hbt
        exact E.mono (ih hs) fun x h1 => by unfold aOps; simp only [hb, hbt]; exact h1
    · simp at hs

theorem lim_opsD {ops : List Oper} : ∀ (rest : List Oper) {env : Env} {h : Heap} {y : Env × Heap × List (Option (List Nat))}, aOpsD P pol K I f ops rest env h = some y → E.ev fun x => aOpsD P pol (K' x) (I' x) f ops rest env h = some y := by
  intro rest
  induction rest with
  | nil => intro env h y hs; exact E.all fun x => hs
  | cons o rest ih =>
    intro env h y hs
    unfold aOpsD at hs
    split at hs
    · rename_i b hb
      split at hs
      · rename_i hbt
        split at hs
        · rename_i e2 h2 hst
          split at hs
          · simp at hs
          · rename_i hl
            split at hs
            · rename_i e3 h3 ts hr
              exact E.mono2 (lim_step1 hK hI hst) (ih hr) fun x h1 h2 => by unfold aOpsD; simp only [hb, hbt, if_true, h1, hl, if_false, h2]; exact hs
            · simp at hs
        · simp at hs
      · rename_i hbt
        split at hs
        · rename_i e3 h3 ts hr
          exact E.mono (ih hr) fun x h1 => by unfold aOpsD; simp only [hb, hbt, h1]; exact hs
        · simp at hs
    · simp at hs

omit hK hI in
theorem lim_iter {n0 : Nat} {live : Option (List Tmp)} {body : Env → Heap → Option (Xit × Env × Heap)} {body' : ι → Env → Heap → Option (Xit × Env × Heap)} (hb : ∀ env h y, body env h = some y → E.ev fun x => body' x env h = some y) :
    ∀ (n : Nat) {env : Env} {h : Heap} {y : Xit × Env × Heap}, iter n0 live body n env h = some y → E.ev fun x => ∀ m, n ≤ m → iter n0 live (body' x) m env h = some y := by
  intro n
  induction n with
  | zero => intro env h y hs; simp [iter] at hs
  | succ n ih =>
    intro env h y hs
    unfold iter at hs
    split at hs
    · rename_i e2 h2 hbd
      split at hs
      · rename_i e3 h3 hsh
        refine E.mono2 (hb _ _ _ hbd) (ih hs) fun x h1 h2 m hm => ?_
        obtain ⟨k, rfl⟩ : ∃ k, m = k + 1 := ⟨m - 1, by omega⟩
        unfold iter
        simp only [h1, hsh]
        exact h2 k (by omega)
      · simp at hs
    · rename_i hnn
      refine E.mono (hb _ _ _ hs) fun x h1 m hm => ?_
      obtain ⟨k, rfl⟩ : ∃ k, m = k + 1 := ⟨m - 1, by omega⟩
      unfold iter
      rw [h1]
      obtain ⟨xt, e2, h2⟩ := y
      cases xt with
      | normal => exact absurd hs (hnn e2 h2)
      | exit id => rfl
      | ret => rfl

include hn
theorem lim_code : ∀ (c : Code) {bid : Nat} {env : Env} {h : Heap} {y : Xit × Env × Heap}, aCode P pol K I n f bid c env h = some y → E.ev fun x => aCode P pol (K' x) (I' x) (n' x) f bid c env h = some y := by
  intro c
  induction c with
  | skip => intro bid env h y hs; exact E.all fun x => by simpa [aCode] using hs
  | label l => intro bid env h y hs; exact E.all fun x => by simpa [aCode] using hs
  | exit id => intro bid env h y hs; exact E.all fun x => by simpa [aCode] using hs
  | ret => intro bid env h y hs; exact E.all fun x => by simpa [aCode] using hs
  | region id ops dr =>
    intro bid env h y hs
    cases dr with
    | false =>
      simp only [aCode] at hs
      split at hs
      · rename_i e2 h2 ho
        exact E.mono (lim_ops hK hI _ ho) fun x h1 => by simp only [aCode, h1]; exact hs
      · simp at hs
    | true =>
      simp only [aCode] at hs
      split at hs
      · rename_i e2 h2 ts ho
        exact E.mono (lim_opsD hK hI _ ho) fun x h1 => by simp only [aCode, h1]; exact hs
      · simp at hs
  | seq a b iha ihb =>
    intro bid env h y hs
    simp only [aCode] at hs
    split at hs
    · rename_i e2 h2 ha
      exact E.mono2 (iha ha) (ihb hs) fun x h1 h2 => by simp only [aCode, h1]; exact h2
    · rename_i hnn
      refine E.mono (iha hs) fun x h1 => ?_
      simp only [aCode, h1]
      obtain ⟨xt, e2, h2⟩ := y
      cases xt with
      | normal => exact absurd hs (hnn e2 h2)
      | exit id => rfl
      | ret => rfl
  | cond t a b iha ihb =>
    intro bid env h y hs
    simp only [aCode] at hs
    split at hs
    · rename_i v hv
      split at hs
      · rename_i ht
        exact E.mono (iha hs) fun x h1 => by simp only [aCode, hv, ht, if_true]; exact h1
      · rename_i ht
        exact E.mono (ihb hs) fun x h1 => by simp only [aCode, hv, ht]; exact h1
    · simp at hs
  | block id c ih =>
    intro bid env h y hs
    simp only [aCode] at hs
    split at hs
    · rename_i j e2 h2 hc
      exact E.mono (ih hc) fun x h1 => by simp only [aCode, h1]; exact hs
    · rename_i hnn
      refine E.mono (ih hs) fun x h1 => ?_
      simp only [aCode, h1]
      obtain ⟨xt, e2, h2⟩ := y
      cases xt with
      | normal => rfl
      | exit id => exact absurd hs (hnn id e2 h2)
      | ret => rfl
  | loop c ih =>
    intro bid env h y hs
    simp only [aCode] at hs
    exact E.mono2 (lim_iter (body' := fun x => aCode P pol (K' x) (I' x) (n' x) f bid c) (fun env h y hy => ih hy) n hs) hn fun x h1 h2 => by simp only [aCode]; exact h1 _ h2
  | scope c ih =>
    intro bid env h y hs
    simp only [aCode] at hs
    exact E.mono (ih hs) fun x h1 => by simp only [aCode]; exact h1
  | rangeFunc g params assign body _ _ =>
    intro bid env h y hs
    simp only [aCode] at hs
    split at hs
    · rename_i gf args hg
      split at hs
      · rename_i v h2 hi
        exact E.mono (hI _ _ _ _ hi) fun x h1 => by simp only [aCode, hg, h1]; exact hs
      · simp at hs
    · simp at hs
  | _ => intro bid env h y hs; simp [aCode] at hs

theorem lim_body {args : List AV} {h : Heap} {y : AV × Heap} (hb : aBody P pol K I n f args h = some y) : E.ev fun x => aBody P pol (K' x) (I' x) (n' x) f args h = some y := by
  unfold aBody at hb
  split at hb
  · rename_i fn hf
    split at hb
    · rename_i c hc
      split at hb
      · rename_i env2 h2 ha
        exact E.mono (lim_code hK hI hn c ha) fun x h1 => by unfold aBody; simp only [hf, hc, h1]; exact hb
      · rename_i env2 h2 ha
        exact E.mono (lim_code hK hI hn c ha) fun x h1 => by unfold aBody; simp only [hf, hc, h1]; exact hb
      · simp at hb
    · simp at hb
  · simp at hb

end

/-- From some i on. -/
def fromN : Flt Nat where
  ev p := ∃ i, ∀ j, i ≤ j → p j
  all h := ⟨0, fun j _ => h j⟩
  mono := fun ⟨i, h⟩ hm => ⟨i, fun j hj => hm j (h j hj)⟩
  both := fun ⟨i, h⟩ ⟨k, h'⟩ => ⟨i + k, fun j hj => ⟨h j (by omega), h' j (by omega)⟩⟩

/-- From some i on, in the first; at least d, in the second. -/
def fromP (d : Nat) : Flt (Nat × Nat) where
  ev p := ∃ i, ∀ j, i ≤ j → ∀ e, d ≤ e → p (j, e)
  all h := ⟨0, fun j _ e _ => h (j, e)⟩
  mono := fun ⟨i, h⟩ hm => ⟨i, fun j hj e he => hm _ (h j hj e he)⟩
  both := fun ⟨i, h⟩ ⟨k, h'⟩ => ⟨i + k, fun j hj e he => ⟨h j (by omega) e he, h' j (by omega) e he⟩⟩

theorem lim_inl {K : Oracle} {C : Nat → Oracle} {n : Nat} (hK : LimK fromN K C) : ∀ (d : Nat), LimI (fromP d) (inl P pol K n d) (fun x => inl P pol (C x.1) x.1 x.2) := by
  intro d
  induction d with
  | zero => intro g args h y hs; simp [inl] at hs
  | succ d ih =>
    intro g args h y hs
    have hK' : LimK (fromP d) K (fun x => C x.1) := fun f ts r hr => let ⟨i, hi⟩ := hK f ts r hr; ⟨i, fun j hj e _ => hi j hj⟩
    have hn' : (fromP d).ev fun x => n ≤ x.1 := ⟨n, fun j hj e _ => hj⟩
    have up : ∀ {p : Nat × Nat → Prop}, (fromP d).ev p → (fromP (d + 1)).ev fun x => p (x.1, x.2 - 1) := fun ⟨i, hi⟩ => ⟨i, fun j hj e he => hi j hj (e - 1) (by omega)⟩
    have pos : (fromP (d + 1)).ev fun x => x.2 = x.2 - 1 + 1 := ⟨0, fun j _ e he => by simp; omega⟩
    cases g with
    | fn g =>
      simp only [inl] at hs
      refine (fromP (d + 1)).mono2 (up (lim_body hK' ih hn' hs)) pos fun x h1 h2 => ?_
      show inl P pol (C x.1) x.1 x.2 (.fn g) args h = some y
      rw [h2]
      simp only [inl]
      exact h1
    | yl l =>
      simp only [inl] at hs
      split at hs
      · rename_i f env params assign body hget
        split at hs
        · simp at hs
        · rename_i hlen
          split at hs
          · rename_i env1 h1 hassign
            split at hs
            · rename_i h1b hbusy
              have fin : ∀ {y'}, aCode P pol K (inl P pol K n d) n f 0 body env1 h1b = some y' → (∀ x : Nat × Nat, aCode P pol (C x.1) (inl P pol (C x.1) x.1 (x.2 - 1)) x.1 f 0 body env1 h1b = some y' →
                  (match (aCode P pol (C x.1) (inl P pol (C x.1) x.1 (x.2 - 1)) x.1 f 0 body env1 h1b) with
                    | some (.normal, _, h2) => idleOf h2 l none
                    | some (.ret, _, h2) => idleOf h2 l (some .ret)
                    | some (.exit id, _, h2) => idleOf h2 l (some (.exit id))
                    | none => none) = some y) → (fromP (d + 1)).ev fun x => inl P pol (C x.1) x.1 x.2 (.yl l) args h = some y := by
                intro y' hbd hfin
                refine (fromP (d + 1)).mono2 (up ((fromP d).both (lim_code hK' ih hn' assign hassign) (lim_code hK' ih hn' body hbd))) pos fun x h1 h2 => ?_
                rw [h2]
                simp only [inl, hget, hlen, if_false]
                rw [h1.1]
                simp only [hbusy]
                exact hfin x h1.2
              split at hs
              · rename_i e3 h3 hbd
                exact fin hbd fun x hx => by rw [hx]; exact hs
              · rename_i e3 h3 hbd
                exact fin hbd fun x hx => by rw [hx]; exact hs
              · rename_i id e3 h3 hbd
                exact fin hbd fun x hx => by rw [hx]; exact hs
              · simp at hs
            · simp at hs
          · simp at hs
      · simp at hs

/-- The evaluator over itself, step by step. -/
def chain (P : Program) (pol : Pol) : Nat → Oracle
  | 0 => fun _ _ => none
  | j + 1 => fun f ts => runTop P pol (chain P pol j) j j f ts

open Classical in
/-- What the evaluator comes to in the end. -/
noncomputable def ans (P : Program) (pol : Pol) : Oracle := fun f ts => if h : ∃ r, fromN.ev fun j => chain P pol j f ts = some r then some h.choose else none

theorem ans_lim : LimK fromN (ans P pol) (chain P pol) := by
  intro f ts r hr
  unfold ans at hr
  split at hr
  · rename_i h
    cases hr
    exact h.choose_spec
  · simp at hr

theorem ans_of_ev {f : FuncId} {ts : List T} {r : T} (h : fromN.ev fun j => chain P pol j f ts = some r) : ans P pol f ts = some r := by
  have hex : ∃ r, fromN.ev fun j => chain P pol j f ts = some r := ⟨r, h⟩
  unfold ans
  rw [dif_pos hex]
  obtain ⟨i, hi⟩ := hex.choose_spec
  obtain ⟨k, hk⟩ := h
  have h1 : chain P pol (i + k) f ts = some hex.choose := hi (i + k) (by omega)
  have h2 : chain P pol (i + k) f ts = some r := hk (i + k) (by omega)
  exact h1.symm.trans h2

theorem top_lim {K : Oracle} {C : Nat → Oracle} (hK : LimK fromN K C) {n d : Nat} {f : FuncId} {ts : List T} {r : T} (h : runTop P pol K n d f ts = some r) : fromN.ev fun j => runTop P pol (C j) j j f ts = some r := by
  unfold runTop at h
  split at h
  · rename_i v h' hb
    have hI : LimI fromN (inl P pol K n d) (fun j => inl P pol (C j) j j) := fun g args h y hs => by
      obtain ⟨i, hi⟩ := lim_inl (P := P) (pol := pol) (n := n) hK d g args h y hs
      exact ⟨i + d, fun j hj => hi j (by omega) j (by omega)⟩
    exact fromN.mono (lim_body (n' := fun j => j) hK hI ⟨n, fun j hj => hj⟩ hb) fun j hj => by unfold runTop; simp only [hj]; exact h
  · simp at h

/-- A call answers what its body evaluates to. -/
theorem ans_of_top {n d : Nat} {f : FuncId} {ts : List T} {r : T} (h : runTop P pol (ans P pol) n d f ts = some r) : ans P pol f ts = some r := by
  obtain ⟨i, hi⟩ := top_lim ans_lim h
  refine ans_of_ev ⟨i + 1, fun j hj => ?_⟩
  obtain ⟨k, rfl⟩ : ∃ k, j = k + 1 := ⟨j - 1, by omega⟩
  exact hi k (by omega)

theorem ans_of_run {n : Nat} : ∀ (m : Nat) {f : FuncId} {ts : List T} {r : T}, runN P pol n m f ts = some r → ans P pol f ts = some r := by
  intro m
  induction m with
  | zero => intro f ts r h; simp [runN] at h
  | succ m ih =>
    intro f ts r h
    have hK : LimK fromN (runN P pol n m) (fun _ => ans P pol) := fun f ts r hr => ⟨0, fun _ _ => ih hr⟩
    obtain ⟨i, hi⟩ := top_lim (P := P) (pol := pol) hK h
    exact ans_of_top (hi i (Nat.le_refl _))

/-- What is known of a program and a policy once for all. -/
structure Sound (P : Program) (pol : Pol) : Prop where
  mix : P.follows .mixedOrders = true
  prog : ProgOk P pol regionOk

theorem chain_ok (hS : Sound P pol) : ∀ j, KOk P pol (chain P pol j) := by
  letI : Cp := ⟨fun f c => codeOk pol regionOk f c = true⟩
  intro j
  induction j with
  | zero => intro f ts r h; simp [chain] at h
  | succ j ih =>
    intro f ts r h
    exact top_sim (ok := regionOk) (fun f c => Iff.rfl) hS.prog ih (fun I hI => drawn_ok hS.mix ih hI) h

theorem ans_ok (hS : Sound P pol) : KOk P pol (ans P pol) := by
  intro f ts r h
  obtain ⟨i, hi⟩ := ans_lim f ts r h
  exact chain_ok hS i f ts r (hi i (Nat.le_refl _))

end Go.Abs
