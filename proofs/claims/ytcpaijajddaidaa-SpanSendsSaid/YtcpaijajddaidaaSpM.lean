/- Offers of ports, and the iterator over them. -/
import Derived.Test.YtcpaijajddaidaaSpH
namespace Go.Proofs.Ytcpaijajddaidaa
open Go Go.Abs
set_option linter.unusedSimpArgs false
set_option linter.unusedVariables false
set_option maxRecDepth 100000
set_option maxHeartbeats 4000000

def lt2 (a b c d : Int) : Prop := a < c ∨ a = c ∧ b < d
instance (a b c d : Int) : Decidable (lt2 a b c d) := inferInstanceAs (Decidable (_ ∨ _))
theorem cmp_lt2 (a b c d : Int) : decide (cmpL [a, b, 0, 0, 0, 0] [c, d, 0, 0, 0, 0] < 0) = decide (lt2 a b c d) := by
  congr 1
  rw [eq_iff_iff]
  simp only [cmpL, cmp3, lt2]
  by_cases h1 : a < c
  · simp [h1]
  · by_cases h2 : c < a
    · simp [h1, h2]; omega
    · have : a = c := by omega
      subst this
      by_cases h3 : b < d
      · simp [h3]
      · by_cases h4 : d < b
        · simp [h3, h4]
        · have : b = d := by omega
          subst this; simp
theorem better_ans (a b c d : Int) : ans Try.prog pol 68 [.agg [I a, I b], .agg [I c, I d]] = some (B (decide (lt2 a b c d))) := by
  have k1 := compare_ans a b 0 0 0 0 c d 0 0 0 0
  have k2 := cmp_lt2 a b c d
  refine ans_go 1 1 il68_eq (Nat.le_of_ble_eq_true rfl) ?_
  (simp only [il68c, go_sem, reduceIte, Nat.reduceEqDiff, Nat.reduceAdd, Int.reduceEq, Nat.reduceLeDiff, Nat.reduceLT, Nat.reduceBEq, Nat.reduceMul, Nat.reduceSub, Int.reduceToNat, Int.reduceLE, Int.reduceLT, Int.reduceAdd, Int.reduceSub, Int.reduceMul, Int.reduceNeg, Int.reduceDiv, Int.reduceMod, Int.reduceTDiv, Int.reduceTMod, Int.reducePow, k1, k2] <;> (repeat' ((first | with_reducible refine brG_intro (fun hc => ?_) (fun hc => ?_) | with_reducible refine brC_intro (fun hc => ?_) (fun hc => ?_) | ((with_reducible refine c_opsD ?_); have hc := @List.length_nil Nat) | ((with_reducible refine c_opsT ?_); have hc := @List.length_nil Nat) | ((with_reducible refine and_crit ?_ ?_); rfl; have hc := @List.length_nil Nat) | ((with_reducible refine crit_done ?_); rfl) | ((with_reducible refine mkC_go (fun _ => ?_)); have hc := @List.length_nil Nat) | ((with_reducible refine mkL_go (fun _ => ?_)); have hc := @List.length_nil Nat)) <;> (try simp only [Bool.not_eq_true', Bool.not_eq_false', Bool.not_true, Bool.not_false] at hc) <;> (try simp only [hc, go_sem, reduceIte, Nat.reduceEqDiff, Nat.reduceAdd, Int.reduceEq, Nat.reduceLeDiff, Nat.reduceLT, Nat.reduceBEq, Nat.reduceMul, Nat.reduceSub, Int.reduceToNat, Int.reduceLE, Int.reduceLT, Int.reduceAdd, Int.reduceSub, Int.reduceMul, Int.reduceNeg, Int.reduceDiv, Int.reduceMod, Int.reduceTDiv, Int.reduceTMod, Int.reducePow, k1, k2]))))

/-- What a bridge knows of its root. -/
structure Tp where
  rp : Int
  rn : Int
  cost : Int
  via : Int
  age : Int
abbrev sbC (c1 c2 c3 : Bool) (b : Br) (t : Tp) : List T := [I b.p, I b.n, .sl c1 1 (b.ports.map I), .sl c2 1 (b.costs.map I), .sl c3 8 (b.heard.map encH), I t.rp, I t.rn, I t.cost, I t.via, I t.age]
abbrev sbT (c1 c2 c3 : Bool) (b : Br) (t : Tp) : T := .agg (sbC c1 c2 c3 b t)
abbrev rkT (h : Hd) : T := .agg [I h.a, I h.b, I h.c, I h.d, I h.e, I h.f]
/-- The offer of a port. -/
def ofr (b : Br) (i : Nat) : Hd := ⟨(hrd b i).is, (hrd b i).a, (hrd b i).b, (hrd b i).c + cst b i, (hrd b i).d, (hrd b i).e, (hrd b i).f, (hrd b i).g⟩
def leads (b : Br) (i : Nat) : Bool := (hrd b i).is && !decide (1048576 < (ofr b i).c) && decide (lt2 (hrd b i).a (hrd b i).b b.p b.n)

theorem offers_ans (c1 c2 c3 : Bool) (b : Br) (t : Tp) : ans Try.prog pol 64 [sbT c1 c2 c3 b t] = some (.fn (.func 67) [] [.ip (sbC c1 c2 c3 b t)]) := by
  refine ans_go 1 1 il64_eq (Nat.le_of_ble_eq_true rfl) ?_
  (simp only [il64c, go_sem, reduceIte, Nat.reduceEqDiff, Nat.reduceAdd, Int.reduceEq, Nat.reduceLeDiff, Nat.reduceLT, Nat.reduceBEq, Nat.reduceMul, Nat.reduceSub, Int.reduceToNat, Int.reduceLE, Int.reduceLT, Int.reduceAdd, Int.reduceSub, Int.reduceMul, Int.reduceNeg, Int.reduceDiv, Int.reduceMod, Int.reduceTDiv, Int.reduceTMod, Int.reducePow] <;> (repeat' ((first | with_reducible refine brG_intro (fun hc => ?_) (fun hc => ?_) | with_reducible refine brC_intro (fun hc => ?_) (fun hc => ?_) | ((with_reducible refine c_opsD ?_); have hc := @List.length_nil Nat) | ((with_reducible refine c_opsT ?_); have hc := @List.length_nil Nat) | ((with_reducible refine and_crit ?_ ?_); rfl; have hc := @List.length_nil Nat) | ((with_reducible refine crit_done ?_); rfl) | ((with_reducible refine mkC_go (fun _ => ?_)); have hc := @List.length_nil Nat) | ((with_reducible refine mkL_go (fun _ => ?_)); have hc := @List.length_nil Nat)) <;> (try simp only [Bool.not_eq_true', Bool.not_eq_false', Bool.not_true, Bool.not_false] at hc) <;> (try simp only [hc, go_sem, reduceIte, Nat.reduceEqDiff, Nat.reduceAdd, Int.reduceEq, Nat.reduceLeDiff, Nat.reduceLT, Nat.reduceBEq, Nat.reduceMul, Nat.reduceSub, Int.reduceToNat, Int.reduceLE, Int.reduceLT, Int.reduceAdd, Int.reduceSub, Int.reduceMul, Int.reduceNeg, Int.reduceDiv, Int.reduceMod, Int.reduceTDiv, Int.reduceTMod, Int.reducePow]))))

theorem mapO_app {hx : Heap} {q : Nat} : ∀ (a b a' b' : Heap), mapO (frzObj hx (fromB q)) a = some a' → mapO (frzObj hx (fromB q)) b = some b' → mapO (frzObj hx (fromB q)) (a ++ b) = some (a' ++ b') := by
  intro a
  induction a with
  | nil => intro b a' b' h1 h2; simp only [mapO, Option.some.injEq] at h1; subst h1; simpa using h2
  | cons y a ih =>
    intro b a' b' h1 h2
    simp only [mapO] at h1
    cases hfy : frzObj hx (fromB q) y with
    | none => rw [hfy] at h1; simp at h1
    | some z =>
      rw [hfy] at h1
      cases hm : mapO (frzObj hx (fromB q)) a with
      | none => rw [hm] at h1; simp at h1
      | some w =>
        rw [hm] at h1
        simp only [Option.some.injEq] at h1
        subst h1
        simp only [List.cons_append, mapO, hfy, ih b w b' hm h2]

section
variable {σ : Type} (hp : σ → Heap) (N : Nat) (hN : ∀ s, (hp s).length = N) (nx : σ → Nat → σ) (dd nn o : Nat) (b : Br)
  (hy : ∀ (s : σ) (i : Nat) (X : Heap) (Q : AV → Heap → Prop), i < b.heard.length → leads b i = true → (∀ X', Q (.t (B true)) (hp (nx s i) ++ X ++ X')) → oB (inl Try.prog pol (ans Try.prog pol) nn dd (.yl o) [.t (I (i : Nat)), .t (rkT (ofr b i))] (hp s ++ X)) Q)
  (hfz : ∀ (s : σ) (h : Heap) (q : Nat), N ≤ q → mapO (frzObj h (fromB q)) (hp s) = some (hp s)) (hoN : o < N)
include hN hy hfz hoN

def ldS (b : Br) (nx : σ → Nat → σ) (s : σ) (i : Nat) : σ := if leads b i = true then nx s i else s

theorem sp_iter (c1 c2 c3 : Bool) (t : Tp) (hlen : b.heard.length ≤ 24) (hcl : b.costs.length = b.heard.length) (hbd : ∀ i, i < b.heard.length → -1000000000 ≤ (ofr b i).c ∧ (ofr b i).c ≤ 1000000000) (s : σ) (Q : AV → Heap → Prop) (hn : 100 < nn)
    (hQ : ∀ v, Q v (hp ((List.range b.heard.length).foldl (ldS b nx) s))) :
    oB (inl Try.prog pol (ans Try.prog pol) nn (dd + 1) (.fn 67) [.yl o, .t (.ip (sbC c1 c2 c3 b t))] (hp s)) Q := by
  refine oB_inl il67_eq (Nat.le_of_ble_eq_true rfl) ?_
  have gA : ∀ (s : σ) (x : AObj) (Y : Heap), (hp s ++ (x :: Y))[N]? = some x := fun s x Y => by rw [List.getElem?_append_right (by rw [hN]; omega), hN, Nat.sub_self]; rfl
  have gB : ∀ (s : σ) (x y : AObj) (Y : Heap), (hp s ++ (x :: y :: Y))[N + 1]? = some y := fun s x y Y => by rw [List.getElem?_append_right (by rw [hN]; omega), hN, Nat.add_sub_cancel_left]; rfl
  have sA : ∀ (s : σ) (x z : AObj) (Y : Heap), List.set (hp s ++ (x :: Y) : List AObj) N z = hp s ++ (z :: Y) := fun s x z Y => by
    rw [List.set_append]; simp [hN]
  have sB : ∀ (s : σ) (x y z : AObj) (Y : Heap), List.set (hp s ++ (x :: y :: Y) : List AObj) (N + 1) z = hp s ++ (x :: z :: Y) := fun s x y z Y => by
    rw [List.set_append]
    simp [hN]
    intro h; omega
  have tk : ∀ (s : σ) (Y : Heap), (hp s ++ Y).take N = hp s := fun s Y => by
    rw [List.take_append, hN, List.take_of_length_le (by rw [hN]; omega)]; simp
  have g6 : ∀ (s : σ) (hx : Heap), mapO (frzObj hx (fromB N)) (hp s) = some (hp s) := fun s hx => hfz s hx N (Nat.le_refl _)
  have hle : ∀ (s : σ) (Y : Heap), (hp s ++ Y).length = N + Y.length := fun s Y => by simp [hN]
  have f2 : decide (N ≤ o) = false := decide_eq_false (by omega)
  (simp only [il67c, go_sem, reduceIte, Nat.reduceEqDiff, Nat.reduceAdd, Int.reduceEq, Nat.reduceLeDiff, Nat.reduceLT, Nat.reduceBEq, Nat.reduceMul, Nat.reduceSub, Int.reduceToNat, Int.reduceLE, Int.reduceLT, Int.reduceAdd, Int.reduceSub, Int.reduceMul, Int.reduceNeg, Int.reduceDiv, Int.reduceMod, Int.reduceTDiv, Int.reduceTMod, Int.reducePow, hN] <;> (repeat' ((first | with_reducible refine brG_intro (fun hc => ?_) (fun hc => ?_) | with_reducible refine brC_intro (fun hc => ?_) (fun hc => ?_) | ((with_reducible refine c_opsD ?_); have hc := @List.length_nil Nat) | ((with_reducible refine c_opsT ?_); have hc := @List.length_nil Nat) | ((with_reducible refine and_crit ?_ ?_); rfl; have hc := @List.length_nil Nat) | ((with_reducible refine crit_done ?_); rfl) | ((with_reducible refine mkC_go (fun _ => ?_)); have hc := @List.length_nil Nat) | ((with_reducible refine mkL_go (fun _ => ?_)); have hc := @List.length_nil Nat)) <;> (try simp only [Bool.not_eq_true', Bool.not_eq_false', Bool.not_true, Bool.not_false] at hc) <;> (try simp only [hc, go_sem, reduceIte, Nat.reduceEqDiff, Nat.reduceAdd, Int.reduceEq, Nat.reduceLeDiff, Nat.reduceLT, Nat.reduceBEq, Nat.reduceMul, Nat.reduceSub, Int.reduceToNat, Int.reduceLE, Int.reduceLT, Int.reduceAdd, Int.reduceSub, Int.reduceMul, Int.reduceNeg, Int.reduceDiv, Int.reduceMod, Int.reduceTDiv, Int.reduceTMod, Int.reducePow, hN]))))
  refine loop_range b.heard encH (step := fun i _ s => .go (ldS b nx s i)) (fin := id)
    (St := fun k s e h => (e 0 = .yl o ∧ e 1 = .t (.ip (sbC c1 c2 c3 b t)) ∧ e 8 = .t (.sl c3 8 (b.heard.map encH)) ∧ e 9 = .t (I (b.heard.length : Nat)) ∧ e 10 = .t (I (k : Nat))) ∧ h = hp s)
    (Ex := fun s x e h => x = .exit 0 ∧ h = hp s) (s := s) (by omega) ?_ ?_ (by omega) ?_ ?_
  · intro i x s e h Y R hm hi hx hget hlt hw ⟨hs, hh⟩ hk
    subst hh
    simp only [ctlK_go] at hk
    have hb := hbd i hi
    have hxe : x = hrd b i := by simp [hrd, hx]
    have hcs : (b.costs.map I)[i]? = some (I (cst b i)) := by simp [cst, show i < b.costs.length by omega]
    have v1 : IntKind.i64.wrap ((hrd b i).c + cst b i) = (hrd b i).c + cst b i := wrap_i64 (by simp only [ofr] at hb; omega) (by simp only [ofr] at hb; omega)
    subst hxe
    have c2' : N < N + (0 + 1 + 1) := by omega
    have k1 := better_ans (hrd b i).a (hrd b i).b b.p b.n
    by_cases q0 : (hrd b i).is = true
    rotate_left
    · have q0' : (hrd b i).is = false := by simpa using q0
      have l0 : ldS b nx s i = s := by rw [ldS, if_neg (by simp [leads, q0'])]
      rw [l0] at hk
      (simp only [il67l0_go, il67l0b, go_sem, reduceIte, Nat.reduceEqDiff, Nat.reduceAdd, Int.reduceEq, Nat.reduceLeDiff, Nat.reduceLT, Nat.reduceBEq, Nat.reduceMul, Nat.reduceSub, Int.reduceToNat, Int.reduceLE, Int.reduceLT, Int.reduceAdd, Int.reduceSub, Int.reduceMul, Int.reduceNeg, Int.reduceDiv, Int.reduceMod, Int.reduceTDiv, Int.reduceTMod, Int.reducePow, hs, hget, hlt, encH_cells, hN, gA, gB, sA, sB, hle, hcs, v1, q0', tk, g6, c2', f2, frz_yl, List.append_assoc, hw] <;> (repeat' ((first | with_reducible refine brG_intro (fun hc => ?_) (fun hc => ?_) | with_reducible refine brC_intro (fun hc => ?_) (fun hc => ?_) | ((with_reducible refine c_opsD ?_); have hc := @List.length_nil Nat) | ((with_reducible refine c_opsT ?_); have hc := @List.length_nil Nat) | ((with_reducible refine and_crit ?_ ?_); rfl; have hc := @List.length_nil Nat) | ((with_reducible refine crit_done ?_); rfl) | ((with_reducible refine mkC_go (fun _ => ?_)); have hc := @List.length_nil Nat) | ((with_reducible refine mkL_go (fun _ => ?_)); have hc := @List.length_nil Nat)) <;> (try simp only [Bool.not_eq_true', Bool.not_eq_false', Bool.not_true, Bool.not_false] at hc) <;> (try simp only [hc, go_sem, reduceIte, Nat.reduceEqDiff, Nat.reduceAdd, Int.reduceEq, Nat.reduceLeDiff, Nat.reduceLT, Nat.reduceBEq, Nat.reduceMul, Nat.reduceSub, Int.reduceToNat, Int.reduceLE, Int.reduceLT, Int.reduceAdd, Int.reduceSub, Int.reduceMul, Int.reduceNeg, Int.reduceDiv, Int.reduceMod, Int.reduceTDiv, Int.reduceTMod, Int.reducePow, hs, hget, hlt, encH_cells, hN, gA, gB, sA, sB, hle, hcs, v1, q0', tk, g6, c2', f2, frz_yl, List.append_assoc, hw]))))
      all_goals (refine hk _ _ ⟨?_, rfl⟩; simp only [go_sem, reduceIte, Nat.reduceEqDiff, Nat.reduceAdd, Int.reduceEq, Nat.reduceLeDiff, Nat.reduceLT, Nat.reduceBEq, Nat.reduceMul, Nat.reduceSub, Int.reduceToNat, Int.reduceLE, Int.reduceLT, Int.reduceAdd, Int.reduceSub, Int.reduceMul, Int.reduceNeg, Int.reduceDiv, Int.reduceMod, Int.reduceTDiv, Int.reduceTMod, Int.reducePow, hs, hw, f2, frz_yl])
    by_cases q1 : 1048576 < (hrd b i).c + cst b i
    · have d1 : decide (1048576 < (hrd b i).c + cst b i) = true := decide_eq_true q1
      have l0 : ldS b nx s i = s := by rw [ldS, if_neg (by simp [leads, ofr, q1])]
      rw [l0] at hk
      (simp only [il67l0_go, il67l0b, go_sem, reduceIte, Nat.reduceEqDiff, Nat.reduceAdd, Int.reduceEq, Nat.reduceLeDiff, Nat.reduceLT, Nat.reduceBEq, Nat.reduceMul, Nat.reduceSub, Int.reduceToNat, Int.reduceLE, Int.reduceLT, Int.reduceAdd, Int.reduceSub, Int.reduceMul, Int.reduceNeg, Int.reduceDiv, Int.reduceMod, Int.reduceTDiv, Int.reduceTMod, Int.reducePow, hs, hget, hlt, encH_cells, hN, gA, gB, sA, sB, hle, hcs, v1, q0, d1, tk, g6, c2', f2, frz_yl, List.append_assoc, hw] <;> (repeat' ((first | with_reducible refine brG_intro (fun hc => ?_) (fun hc => ?_) | with_reducible refine brC_intro (fun hc => ?_) (fun hc => ?_) | ((with_reducible refine c_opsD ?_); have hc := @List.length_nil Nat) | ((with_reducible refine c_opsT ?_); have hc := @List.length_nil Nat) | ((with_reducible refine and_crit ?_ ?_); rfl; have hc := @List.length_nil Nat) | ((with_reducible refine crit_done ?_); rfl) | ((with_reducible refine mkC_go (fun _ => ?_)); have hc := @List.length_nil Nat) | ((with_reducible refine mkL_go (fun _ => ?_)); have hc := @List.length_nil Nat)) <;> (try simp only [Bool.not_eq_true', Bool.not_eq_false', Bool.not_true, Bool.not_false] at hc) <;> (try simp only [hc, go_sem, reduceIte, Nat.reduceEqDiff, Nat.reduceAdd, Int.reduceEq, Nat.reduceLeDiff, Nat.reduceLT, Nat.reduceBEq, Nat.reduceMul, Nat.reduceSub, Int.reduceToNat, Int.reduceLE, Int.reduceLT, Int.reduceAdd, Int.reduceSub, Int.reduceMul, Int.reduceNeg, Int.reduceDiv, Int.reduceMod, Int.reduceTDiv, Int.reduceTMod, Int.reducePow, hs, hget, hlt, encH_cells, hN, gA, gB, sA, sB, hle, hcs, v1, q0, d1, tk, g6, c2', f2, frz_yl, List.append_assoc, hw]))))
      all_goals (refine hk _ _ ⟨?_, rfl⟩; simp only [go_sem, reduceIte, Nat.reduceEqDiff, Nat.reduceAdd, Int.reduceEq, Nat.reduceLeDiff, Nat.reduceLT, Nat.reduceBEq, Nat.reduceMul, Nat.reduceSub, Int.reduceToNat, Int.reduceLE, Int.reduceLT, Int.reduceAdd, Int.reduceSub, Int.reduceMul, Int.reduceNeg, Int.reduceDiv, Int.reduceMod, Int.reduceTDiv, Int.reduceTMod, Int.reducePow, hs, hw, f2, frz_yl])
    have d1 : decide (1048576 < (hrd b i).c + cst b i) = false := decide_eq_false q1
    by_cases q2 : lt2 (hrd b i).a (hrd b i).b b.p b.n
    rotate_left
    · rw [decide_eq_false q2] at k1
      have l0 : ldS b nx s i = s := by rw [ldS, if_neg (by simp [leads, q2])]
      rw [l0] at hk
      (simp only [il67l0_go, il67l0b, go_sem, reduceIte, Nat.reduceEqDiff, Nat.reduceAdd, Int.reduceEq, Nat.reduceLeDiff, Nat.reduceLT, Nat.reduceBEq, Nat.reduceMul, Nat.reduceSub, Int.reduceToNat, Int.reduceLE, Int.reduceLT, Int.reduceAdd, Int.reduceSub, Int.reduceMul, Int.reduceNeg, Int.reduceDiv, Int.reduceMod, Int.reduceTDiv, Int.reduceTMod, Int.reducePow, hs, hget, hlt, encH_cells, hN, gA, gB, sA, sB, hle, hcs, v1, q0, d1, k1, tk, g6, c2', f2, frz_yl, List.append_assoc, hw] <;> (repeat' ((first | with_reducible refine brG_intro (fun hc => ?_) (fun hc => ?_) | with_reducible refine brC_intro (fun hc => ?_) (fun hc => ?_) | ((with_reducible refine c_opsD ?_); have hc := @List.length_nil Nat) | ((with_reducible refine c_opsT ?_); have hc := @List.length_nil Nat) | ((with_reducible refine and_crit ?_ ?_); rfl; have hc := @List.length_nil Nat) | ((with_reducible refine crit_done ?_); rfl) | ((with_reducible refine mkC_go (fun _ => ?_)); have hc := @List.length_nil Nat) | ((with_reducible refine mkL_go (fun _ => ?_)); have hc := @List.length_nil Nat)) <;> (try simp only [Bool.not_eq_true', Bool.not_eq_false', Bool.not_true, Bool.not_false] at hc) <;> (try simp only [hc, go_sem, reduceIte, Nat.reduceEqDiff, Nat.reduceAdd, Int.reduceEq, Nat.reduceLeDiff, Nat.reduceLT, Nat.reduceBEq, Nat.reduceMul, Nat.reduceSub, Int.reduceToNat, Int.reduceLE, Int.reduceLT, Int.reduceAdd, Int.reduceSub, Int.reduceMul, Int.reduceNeg, Int.reduceDiv, Int.reduceMod, Int.reduceTDiv, Int.reduceTMod, Int.reducePow, hs, hget, hlt, encH_cells, hN, gA, gB, sA, sB, hle, hcs, v1, q0, d1, k1, tk, g6, c2', f2, frz_yl, List.append_assoc, hw]))))
      all_goals (refine hk _ _ ⟨?_, rfl⟩; simp only [go_sem, reduceIte, Nat.reduceEqDiff, Nat.reduceAdd, Int.reduceEq, Nat.reduceLeDiff, Nat.reduceLT, Nat.reduceBEq, Nat.reduceMul, Nat.reduceSub, Int.reduceToNat, Int.reduceLE, Int.reduceLT, Int.reduceAdd, Int.reduceSub, Int.reduceMul, Int.reduceNeg, Int.reduceDiv, Int.reduceMod, Int.reduceTDiv, Int.reduceTMod, Int.reducePow, hs, hw, f2, frz_yl])
    · rw [decide_eq_true q2] at k1
      have l1 : leads b i = true := by simp only [leads, ofr, q0, d1, decide_eq_true q2, Bool.not_false, Bool.and_self]
      have l0 : ldS b nx s i = nx s i := by rw [ldS, if_pos l1]
      rw [l0] at hk
      have hyi := fun X Q => hy s i X Q hi l1
      simp only [ofr] at hyi
      (simp only [il67l0_go, il67l0b, go_sem, reduceIte, Nat.reduceEqDiff, Nat.reduceAdd, Int.reduceEq, Nat.reduceLeDiff, Nat.reduceLT, Nat.reduceBEq, Nat.reduceMul, Nat.reduceSub, Int.reduceToNat, Int.reduceLE, Int.reduceLT, Int.reduceAdd, Int.reduceSub, Int.reduceMul, Int.reduceNeg, Int.reduceDiv, Int.reduceMod, Int.reduceTDiv, Int.reduceTMod, Int.reducePow, hs, hget, hlt, encH_cells, hN, gA, gB, sA, sB, hle, hcs, v1, q0, d1, k1, List.append_assoc] <;> (repeat' ((first | with_reducible refine brG_intro (fun hc => ?_) (fun hc => ?_) | with_reducible refine brC_intro (fun hc => ?_) (fun hc => ?_) | ((with_reducible refine c_opsD ?_); have hc := @List.length_nil Nat) | ((with_reducible refine c_opsT ?_); have hc := @List.length_nil Nat) | ((with_reducible refine and_crit ?_ ?_); rfl; have hc := @List.length_nil Nat) | ((with_reducible refine crit_done ?_); rfl) | ((with_reducible refine mkC_go (fun _ => ?_)); have hc := @List.length_nil Nat) | ((with_reducible refine mkL_go (fun _ => ?_)); have hc := @List.length_nil Nat)) <;> (try simp only [Bool.not_eq_true', Bool.not_eq_false', Bool.not_true, Bool.not_false] at hc) <;> (try simp only [hc, go_sem, reduceIte, Nat.reduceEqDiff, Nat.reduceAdd, Int.reduceEq, Nat.reduceLeDiff, Nat.reduceLT, Nat.reduceBEq, Nat.reduceMul, Nat.reduceSub, Int.reduceToNat, Int.reduceLE, Int.reduceLT, Int.reduceAdd, Int.reduceSub, Int.reduceMul, Int.reduceNeg, Int.reduceDiv, Int.reduceMod, Int.reduceTDiv, Int.reduceTMod, Int.reducePow, hs, hget, hlt, encH_cells, hN, gA, gB, sA, sB, hle, hcs, v1, q0, d1, k1, List.append_assoc]))))
      refine hyi _ _ ?_
      intro X'
      have c3' : N < N + (0 + 1 + 1 + X'.length) := by omega
      have c4' : N < N + (X'.length + 1 + 1) := by omega
      (simp only [il67l0_go, il67l0b, go_sem, reduceIte, Nat.reduceEqDiff, Nat.reduceAdd, Int.reduceEq, Nat.reduceLeDiff, Nat.reduceLT, Nat.reduceBEq, Nat.reduceMul, Nat.reduceSub, Int.reduceToNat, Int.reduceLE, Int.reduceLT, Int.reduceAdd, Int.reduceSub, Int.reduceMul, Int.reduceNeg, Int.reduceDiv, Int.reduceMod, Int.reduceTDiv, Int.reduceTMod, Int.reducePow, hle, hw, tk, g6, c3', c4', f2, frz_yl, List.append_assoc] <;> (repeat' ((first | with_reducible refine brG_intro (fun hc => ?_) (fun hc => ?_) | with_reducible refine brC_intro (fun hc => ?_) (fun hc => ?_) | ((with_reducible refine c_opsD ?_); have hc := @List.length_nil Nat) | ((with_reducible refine c_opsT ?_); have hc := @List.length_nil Nat) | ((with_reducible refine and_crit ?_ ?_); rfl; have hc := @List.length_nil Nat) | ((with_reducible refine crit_done ?_); rfl) | ((with_reducible refine mkC_go (fun _ => ?_)); have hc := @List.length_nil Nat) | ((with_reducible refine mkL_go (fun _ => ?_)); have hc := @List.length_nil Nat)) <;> (try simp only [Bool.not_eq_true', Bool.not_eq_false', Bool.not_true, Bool.not_false] at hc) <;> (try simp only [hc, go_sem, reduceIte, Nat.reduceEqDiff, Nat.reduceAdd, Int.reduceEq, Nat.reduceLeDiff, Nat.reduceLT, Nat.reduceBEq, Nat.reduceMul, Nat.reduceSub, Int.reduceToNat, Int.reduceLE, Int.reduceLT, Int.reduceAdd, Int.reduceSub, Int.reduceMul, Int.reduceNeg, Int.reduceDiv, Int.reduceMod, Int.reduceTDiv, Int.reduceTMod, Int.reducePow, hle, hw, tk, g6, c3', c4', f2, frz_yl, List.append_assoc]))))
      all_goals (refine hk _ _ ⟨?_, rfl⟩; simp only [go_sem, reduceIte, Nat.reduceEqDiff, Nat.reduceAdd, Int.reduceEq, Nat.reduceLeDiff, Nat.reduceLT, Nat.reduceBEq, Nat.reduceMul, Nat.reduceSub, Int.reduceToNat, Int.reduceLE, Int.reduceLT, Int.reduceAdd, Int.reduceSub, Int.reduceMul, Int.reduceNeg, Int.reduceDiv, Int.reduceMod, Int.reduceTDiv, Int.reduceTMod, Int.reducePow, hs, hw, f2, frz_yl])
  · intro s e h Y R hlt ⟨hs, hh⟩ hk
    subst hh
    (simp only [il67l0_go, il67l0b, go_sem, reduceIte, Nat.reduceEqDiff, Nat.reduceAdd, Int.reduceEq, Nat.reduceLeDiff, Nat.reduceLT, Nat.reduceBEq, Nat.reduceMul, Nat.reduceSub, Int.reduceToNat, Int.reduceLE, Int.reduceLT, Int.reduceAdd, Int.reduceSub, Int.reduceMul, Int.reduceNeg, Int.reduceDiv, Int.reduceMod, Int.reduceTDiv, Int.reduceTMod, Int.reducePow, hs, hlt] <;> (repeat' ((first | with_reducible refine brG_intro (fun hc => ?_) (fun hc => ?_) | with_reducible refine brC_intro (fun hc => ?_) (fun hc => ?_) | ((with_reducible refine c_opsD ?_); have hc := @List.length_nil Nat) | ((with_reducible refine c_opsT ?_); have hc := @List.length_nil Nat) | ((with_reducible refine and_crit ?_ ?_); rfl; have hc := @List.length_nil Nat) | ((with_reducible refine crit_done ?_); rfl) | ((with_reducible refine mkC_go (fun _ => ?_)); have hc := @List.length_nil Nat) | ((with_reducible refine mkL_go (fun _ => ?_)); have hc := @List.length_nil Nat)) <;> (try simp only [Bool.not_eq_true', Bool.not_eq_false', Bool.not_true, Bool.not_false] at hc) <;> (try simp only [hc, go_sem, reduceIte, Nat.reduceEqDiff, Nat.reduceAdd, Int.reduceEq, Nat.reduceLeDiff, Nat.reduceLT, Nat.reduceBEq, Nat.reduceMul, Nat.reduceSub, Int.reduceToNat, Int.reduceLE, Int.reduceLT, Int.reduceAdd, Int.reduceSub, Int.reduceMul, Int.reduceNeg, Int.reduceDiv, Int.reduceMod, Int.reduceTDiv, Int.reduceTMod, Int.reducePow, hs, hlt]))))
    all_goals (refine hk _ _ _ ?_; simp only [go_sem, reduceIte, Nat.reduceEqDiff, Nat.reduceAdd, Int.reduceEq, Nat.reduceLeDiff, Nat.reduceLT, Nat.reduceBEq, Nat.reduceMul, Nat.reduceSub, Int.reduceToNat, Int.reduceLE, Int.reduceLT, Int.reduceAdd, Int.reduceSub, Int.reduceMul, Int.reduceNeg, Int.reduceDiv, Int.reduceMod, Int.reduceTDiv, Int.reduceTMod, Int.reducePow, id])
  · simp only [go_sem, reduceIte, Nat.reduceEqDiff, Nat.reduceAdd, Int.reduceEq, Nat.reduceLeDiff, Nat.reduceLT, Nat.reduceBEq, Nat.reduceMul, Nat.reduceSub, Int.reduceToNat, Int.reduceLE, Int.reduceLT, Int.reduceAdd, Int.reduceSub, Int.reduceMul, Int.reduceNeg, Int.reduceDiv, Int.reduceMod, Int.reduceTDiv, Int.reduceTMod, Int.reducePow]
  · intro x e h ⟨h1, h2⟩
    subst h1
    have hf : ∀ (r : List Hd) (k : Nat) (s : σ), foldC (ρ := σ) (fun i _ s => Ctl.go (ldS b nx s i)) id k r s = (List.range' k r.length).foldl (ldS b nx) s := by
      intro r
      induction r with
      | nil => intro k s; rfl
      | cons l r ih => intro k s; rw [foldC_go (s' := ldS b nx s k) rfl, ih, List.length_cons, List.range'_succ]; rfl
    rw [hf, ← List.range_eq_range'] at h2
    subst h2
    (simp only [il67c, go_sem, reduceIte, Nat.reduceEqDiff, Nat.reduceAdd, Int.reduceEq, Nat.reduceLeDiff, Nat.reduceLT, Nat.reduceBEq, Nat.reduceMul, Nat.reduceSub, Int.reduceToNat, Int.reduceLE, Int.reduceLT, Int.reduceAdd, Int.reduceSub, Int.reduceMul, Int.reduceNeg, Int.reduceDiv, Int.reduceMod, Int.reduceTDiv, Int.reduceTMod, Int.reducePow] <;> (repeat' ((first | with_reducible refine brG_intro (fun hc => ?_) (fun hc => ?_) | with_reducible refine brC_intro (fun hc => ?_) (fun hc => ?_) | ((with_reducible refine c_opsD ?_); have hc := @List.length_nil Nat) | ((with_reducible refine c_opsT ?_); have hc := @List.length_nil Nat) | ((with_reducible refine and_crit ?_ ?_); rfl; have hc := @List.length_nil Nat) | ((with_reducible refine crit_done ?_); rfl) | ((with_reducible refine mkC_go (fun _ => ?_)); have hc := @List.length_nil Nat) | ((with_reducible refine mkL_go (fun _ => ?_)); have hc := @List.length_nil Nat)) <;> (try simp only [Bool.not_eq_true', Bool.not_eq_false', Bool.not_true, Bool.not_false] at hc) <;> (try simp only [hc, go_sem, reduceIte, Nat.reduceEqDiff, Nat.reduceAdd, Int.reduceEq, Nat.reduceLeDiff, Nat.reduceLT, Nat.reduceBEq, Nat.reduceMul, Nat.reduceSub, Int.reduceToNat, Int.reduceLE, Int.reduceLT, Int.reduceAdd, Int.reduceSub, Int.reduceMul, Int.reduceNeg, Int.reduceDiv, Int.reduceMod, Int.reduceTDiv, Int.reduceTMod, Int.reducePow]))))
    all_goals exact hQ _
end

end Go.Proofs.Ytcpaijajddaidaa
