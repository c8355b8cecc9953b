/- The iterators of package elect. -/
import Derived.Test.YtboknhdkadcaeaaElB
namespace Go.Proofs.Ytboknhdkadcaeaa
open Go Go.Abs
set_option linter.unusedSimpArgs false
set_option linter.unusedVariables false
set_option maxRecDepth 100000
set_option maxHeartbeats 4000000

/-- The neighbours of node i: link and node, in the order of the links. -/
def nb1 (i : Int) (k : Nat) (l : Int × Int) : List (Int × Int) := (if l.1 = i then [((k : Int), l.2)] else []) ++ (if l.2 = i then [((k : Int), l.1)] else [])
def nbs (i : Int) : Nat → List (Int × Int) → List (Int × Int)
  | _, [] => []
  | k, l :: r => nb1 i k l ++ nbs i (k + 1) r

section
variable {σ : Type} (hp : σ → Heap) (N : Nat) (hN : ∀ s, (hp s).length = N) (nx : σ → Int × Int → σ) (dd : Nat) (nn : Nat) (o : Nat) (Pj : Int → Prop) (Pz : Nat → σ → Prop) (hPd : ∀ n s, Pz (n + 1) s → Pz n s) (hPn : ∀ n s (kj : Int × Int), Pz (n + 1) s → Pj kj.2 → Pz n (nx s kj))
  (hy : ∀ (s : σ) (kj : Int × Int) (X : Heap) (Q : AV → Heap → Prop), Pz 1 s → Pj kj.2 → (∀ X', Q (.t (B' true)) (hp (nx s kj) ++ X ++ X')) → oB (inl Try.prog pol (ans Try.prog pol) nn dd (.yl o) [.t (I' kj.1), .t (I' kj.2)] (hp s ++ X)) Q)
  (hfz : ∀ (s : σ) (h : Heap) (q : Nat), N ≤ q → mapO (frzObj h (fromB q)) (hp s) = some (hp s)) (hoN : o < N)
include hN hPd hPn hy hfz hoN

omit hN hPn hy hfz hoN in
theorem pz_le {n m : Nat} {s : σ} (h : Pz n s) (hm : m ≤ n) : Pz m s := by
  obtain ⟨d, rfl⟩ : ∃ d, n = m + d := ⟨n - m, by omega⟩
  clear hm
  induction d with
  | zero => exact h
  | succ d ih => exact ih (hPd _ _ h)

theorem nb_inner (i : Int) (k : Nat) (l : Int × Int) (hl : Pj l.1 ∧ Pj l.2) (t8 t9 t10 : T) (s : σ) (m : Nat) (hz : Pz (m + 2) s) (R : Xit → FEnv → Heap → Prop) (e : FEnv) (hn : 10 < nn)
    (he : e 0 = .yl o ∧ e 2 = .t (.ip [I' i]) ∧ e 4 = .t (I' (k : Nat)) ∧ e 5 = .ref N 1 0 0 ∧ e 8 = .t t8 ∧ e 9 = .t t9 ∧ e 10 = .t t10 ∧ e 15 = .t (I' 0))
    (hR : ∀ e, Pz m ((nb1 i k l).foldl nx s) → (e 0 = .yl o ∧ e 2 = .t (.ip [I' i]) ∧ e 8 = .t t8 ∧ e 9 = .t t9 ∧ e 10 = .t t10) → R (.exit 2) e (hp ((nb1 i k l).foldl nx s) ++ [.row 2 [.t (.agg [I' l.1, I' l.2])] 1])) :
    wpIter (N + 1) (some [0, 2, 4, 5, 8, 9, 10, 15]) (wc Try.prog pol (ans Try.prog pol) (inl Try.prog pol (ans Try.prog pol) nn dd) nn 52 il52l0) R nn e (hp s ++ [.row 2 [.t (.agg [I' l.1, I' l.2])] 1]) := by
  have g1 : ∀ (s : σ) (x : AObj) (Y : Heap), (hp s ++ (x :: Y))[N]? = some x := fun s x Y => by rw [List.getElem?_append_right (by rw [hN]; omega), hN, Nat.sub_self]; rfl
  have g2 : ∀ (s : σ) (x : AObj) (Y : Heap), (hp s ++ (x :: Y)).take (N + 1) = hp s ++ [x] := fun s x Y => by
    rw [List.take_append, hN, List.take_of_length_le (by rw [hN]; omega)]
    simp
  have g3 : ∀ (s : σ) (x : AObj) (hx : Heap) (q : Nat), N + 1 ≤ q → frzObj hx (fromB q) x = some x → mapO (frzObj hx (fromB q)) (hp s ++ [x]) = some (hp s ++ [x]) := by
    intro s x hx q hq hf
    have h0 := hfz s hx q (by omega)
    have key : ∀ (a b : Heap) (a' b' : Heap), mapO (frzObj hx (fromB q)) a = some a' → mapO (frzObj hx (fromB q)) b = some b' → mapO (frzObj hx (fromB q)) (a ++ b) = some (a' ++ b') := by
      intro a
      induction a with
      | nil => intro b a' b' h1 h2; simp only [mapO, Option.some.injEq] at h1; subst h1; simpa using h2
      | cons y a ih =>
        intro b a' b' h1 h2
        simp only [mapO] at h1
        cases hfy : frzObj hx (fromB q) y with
        | none => rw [hfy] at h1; simp at h1
        | some z =>
          rw [hfy] at h1
          cases hm : mapO (frzObj hx (fromB q)) a with
          | none => rw [hm] at h1; simp at h1
          | some w =>
            rw [hm] at h1
            simp only [Option.some.injEq] at h1
            subst h1
            simp only [List.cons_append, mapO, hfy, ih b w b' hm h2]
    exact key _ _ _ _ h0 (by simp only [mapO, hf])
  have fr : ∀ (hx : Heap) (q : Nat), frzObj hx (fromB q) (.row 2 [.t (.agg [I' l.1, I' l.2])] 1) = some (.row 2 [.t (.agg [I' l.1, I' l.2])] 1) := by
    intro hx q; simp [frzObj, avoidAll, avoid]
  have hlen : ∀ (s : σ) (Y : Heap), (hp s ++ Y).length = N + Y.length := fun s Y => by simp [hN]
  have g3' : ∀ (s : σ) (hx : Heap), mapO (frzObj hx (fromB (N + 1))) (hp s ++ [.row 2 [.t (.agg [I' l.1, I' l.2])] 1]) = some (hp s ++ [.row 2 [.t (.agg [I' l.1, I' l.2])] 1]) := fun s hx => g3 s _ hx (N + 1) (Nat.le_refl _) (fr hx (N + 1))
  have f1 : decide (N + 1 ≤ N) = false := decide_eq_false (by omega)
  have f2 : decide (N + 1 ≤ o) = false := decide_eq_false (by omega)
  have f3 : N + 1 ≤ N + 1 := Nat.le_refl _
  refine loop_upto 2 (step := fun j s => .go (if (if j = 0 then l.1 else l.2) = i then nx s ((k : Int), if j = 0 then l.2 else l.1) else s)) (fin := id)
    (St := fun j s e h => (e 0 = .yl o ∧ e 2 = .t (.ip [I' i]) ∧ e 4 = .t (I' (k : Nat)) ∧ e 5 = .ref N 1 0 0 ∧ e 8 = .t t8 ∧ e 9 = .t t9 ∧ e 10 = .t t10 ∧ e 15 = .t (I' (j : Nat))) ∧ h = hp s ++ [.row 2 [.t (.agg [I' l.1, I' l.2])] 1] ∧ Pz (m + 2 - j) s)
    (Ex := fun s x e h => Pz m s ∧ (e 0 = .yl o ∧ e 2 = .t (.ip [I' i]) ∧ e 8 = .t t8 ∧ e 9 = .t t9 ∧ e 10 = .t t10) ∧ x = .exit 2 ∧ h = hp s ++ [.row 2 [.t (.agg [I' l.1, I' l.2])] 1]) (s := s) (by omega) ?_ ?_ (by omega) ⟨he, rfl, hz⟩ ?_
  · intro j s e h Y R hj _ hw ⟨hs, hh, hzz⟩ hk
    subst hh
    have hz1 : Pz 1 s := pz_le Pz hPd hzz (by omega)
    have hzd : Pz (m + 2 - (j + 1)) s := pz_le Pz hPd hzz (by omega)
    have hzn : ∀ kj : Int × Int, Pj kj.2 → Pz (m + 2 - (j + 1)) (nx s kj) := fun kj hkj => hPn _ s kj (by rw [show m + 2 - (j + 1) + 1 = m + 2 - j by omega]; exact hzz) hkj
    simp only [ctlK_go] at hk
    have hj2 : j = 0 ∨ j = 1 := by omega
    rcases hj2 with rfl | rfl
    · simp only [if_true] at hk
      by_cases q : l.1 = i
      · have d1 : decide (l.1 = i) = true := decide_eq_true q
        rw [if_pos q] at hk
        (simp only [il52l0_go, il52l0b, go_sem, reduceIte, Nat.reduceEqDiff, Nat.reduceAdd, Int.reduceEq, Nat.reduceLeDiff, Nat.reduceLT, Nat.reduceBEq, Nat.reduceMul, Nat.reduceSub, Int.reduceToNat, Int.reduceLE, Int.reduceLT, Int.reduceAdd, Int.reduceSub, Int.reduceMul, Int.reduceNeg, Int.reduceDiv, Int.reduceMod, Int.reduceTDiv, Int.reduceTMod, Int.reducePow, hs, g1, hlen, d1] <;> (repeat' ((first | with_reducible refine brG_intro (fun hc => ?_) (fun hc => ?_) | with_reducible refine brC_intro (fun hc => ?_) (fun hc => ?_) | ((with_reducible refine c_opsD ?_); have hc := @List.length_nil Nat) | ((with_reducible refine c_opsT ?_); have hc := @List.length_nil Nat) | ((with_reducible refine and_crit ?_ ?_); rfl; have hc := @List.length_nil Nat) | ((with_reducible refine crit_done ?_); rfl; have hc := @List.length_nil Nat) | ((with_reducible refine mkC_go (fun _ => ?_)); have hc := @List.length_nil Nat) | ((with_reducible refine mkL_go (fun _ => ?_)); have hc := @List.length_nil Nat)) <;> (try simp only [Bool.not_eq_true', Bool.not_eq_false', Bool.not_true, Bool.not_false] at hc) <;> (try simp only [hc, go_sem, reduceIte, Nat.reduceEqDiff, Nat.reduceAdd, Int.reduceEq, Nat.reduceLeDiff, Nat.reduceLT, Nat.reduceBEq, Nat.reduceMul, Nat.reduceSub, Int.reduceToNat, Int.reduceLE, Int.reduceLT, Int.reduceAdd, Int.reduceSub, Int.reduceMul, Int.reduceNeg, Int.reduceDiv, Int.reduceMod, Int.reduceTDiv, Int.reduceTMod, Int.reducePow, hs, g1, hlen, d1]))))
        refine hy s ((k : Int), l.2) _ _ hz1 hl.2 ?_
        intro X'
        cases X' with
        | nil =>
          (simp only [il52l0_go, il52l0b, go_sem, reduceIte, Nat.reduceEqDiff, Nat.reduceAdd, Int.reduceEq, Nat.reduceLeDiff, Nat.reduceLT, Nat.reduceBEq, Nat.reduceMul, Nat.reduceSub, Int.reduceToNat, Int.reduceLE, Int.reduceLT, Int.reduceAdd, Int.reduceSub, Int.reduceMul, Int.reduceNeg, Int.reduceDiv, Int.reduceMod, Int.reduceTDiv, Int.reduceTMod, Int.reducePow, hs, g1, hlen, f3, w1, w2] <;> (repeat' ((first | with_reducible refine brG_intro (fun hc => ?_) (fun hc => ?_) | with_reducible refine brC_intro (fun hc => ?_) (fun hc => ?_) | ((with_reducible refine c_opsD ?_); have hc := @List.length_nil Nat) | ((with_reducible refine c_opsT ?_); have hc := @List.length_nil Nat) | ((with_reducible refine and_crit ?_ ?_); rfl; have hc := @List.length_nil Nat) | ((with_reducible refine crit_done ?_); rfl; have hc := @List.length_nil Nat) | ((with_reducible refine mkC_go (fun _ => ?_)); have hc := @List.length_nil Nat) | ((with_reducible refine mkL_go (fun _ => ?_)); have hc := @List.length_nil Nat)) <;> (try simp only [Bool.not_eq_true', Bool.not_eq_false', Bool.not_true, Bool.not_false] at hc) <;> (try simp only [hc, go_sem, reduceIte, Nat.reduceEqDiff, Nat.reduceAdd, Int.reduceEq, Nat.reduceLeDiff, Nat.reduceLT, Nat.reduceBEq, Nat.reduceMul, Nat.reduceSub, Int.reduceToNat, Int.reduceLE, Int.reduceLT, Int.reduceAdd, Int.reduceSub, Int.reduceMul, Int.reduceNeg, Int.reduceDiv, Int.reduceMod, Int.reduceTDiv, Int.reduceTMod, Int.reducePow, hs, g1, hlen, f3, w1, w2]))))
          all_goals (refine hk _ _ ⟨?_, rfl, hzn _ hl.2⟩; simp only [go_sem, reduceIte, Nat.reduceEqDiff, Nat.reduceAdd, Int.reduceEq, Nat.reduceLeDiff, Nat.reduceLT, Nat.reduceBEq, Nat.reduceMul, Nat.reduceSub, Int.reduceToNat, Int.reduceLE, Int.reduceLT, Int.reduceAdd, Int.reduceSub, Int.reduceMul, Int.reduceNeg, Int.reduceDiv, Int.reduceMod, Int.reduceTDiv, Int.reduceTMod, Int.reducePow, hs, w1, w2])
        | cons x X' =>
          have c1 : N + 1 ≤ N + (X'.length + 1 + 1) := by omega
          have c2 : N + 1 < N + (X'.length + 1 + 1) := by omega
          (simp only [il52l0_go, il52l0b, go_sem, reduceIte, Nat.reduceEqDiff, Nat.reduceAdd, Int.reduceEq, Nat.reduceLeDiff, Nat.reduceLT, Nat.reduceBEq, Nat.reduceMul, Nat.reduceSub, Int.reduceToNat, Int.reduceLE, Int.reduceLT, Int.reduceAdd, Int.reduceSub, Int.reduceMul, Int.reduceNeg, Int.reduceDiv, Int.reduceMod, Int.reduceTDiv, Int.reduceTMod, Int.reducePow, hs, List.append_assoc, g1, g2, g3', hlen, c1, c2, f1, f2, frz_yl, w1, w2] <;> (repeat' ((first | with_reducible refine brG_intro (fun hc => ?_) (fun hc => ?_) | with_reducible refine brC_intro (fun hc => ?_) (fun hc => ?_) | ((with_reducible refine c_opsD ?_); have hc := @List.length_nil Nat) | ((with_reducible refine c_opsT ?_); have hc := @List.length_nil Nat) | ((with_reducible refine and_crit ?_ ?_); rfl; have hc := @List.length_nil Nat) | ((with_reducible refine crit_done ?_); rfl; have hc := @List.length_nil Nat) | ((with_reducible refine mkC_go (fun _ => ?_)); have hc := @List.length_nil Nat) | ((with_reducible refine mkL_go (fun _ => ?_)); have hc := @List.length_nil Nat)) <;> (try simp only [Bool.not_eq_true', Bool.not_eq_false', Bool.not_true, Bool.not_false] at hc) <;> (try simp only [hc, go_sem, reduceIte, Nat.reduceEqDiff, Nat.reduceAdd, Int.reduceEq, Nat.reduceLeDiff, Nat.reduceLT, Nat.reduceBEq, Nat.reduceMul, Nat.reduceSub, Int.reduceToNat, Int.reduceLE, Int.reduceLT, Int.reduceAdd, Int.reduceSub, Int.reduceMul, Int.reduceNeg, Int.reduceDiv, Int.reduceMod, Int.reduceTDiv, Int.reduceTMod, Int.reducePow, hs, List.append_assoc, g1, g2, g3', hlen, c1, c2, f1, f2, frz_yl, w1, w2]))))
          all_goals (refine hk _ _ ⟨?_, rfl, hzn _ hl.2⟩; simp only [go_sem, reduceIte, Nat.reduceEqDiff, Nat.reduceAdd, Int.reduceEq, Nat.reduceLeDiff, Nat.reduceLT, Nat.reduceBEq, Nat.reduceMul, Nat.reduceSub, Int.reduceToNat, Int.reduceLE, Int.reduceLT, Int.reduceAdd, Int.reduceSub, Int.reduceMul, Int.reduceNeg, Int.reduceDiv, Int.reduceMod, Int.reduceTDiv, Int.reduceTMod, Int.reducePow, hs, f1, f2, frz_yl, w1, w2])
      · have d1 : decide (l.1 = i) = false := decide_eq_false q
        rw [if_neg q] at hk
        (simp only [il52l0_go, il52l0b, go_sem, reduceIte, Nat.reduceEqDiff, Nat.reduceAdd, Int.reduceEq, Nat.reduceLeDiff, Nat.reduceLT, Nat.reduceBEq, Nat.reduceMul, Nat.reduceSub, Int.reduceToNat, Int.reduceLE, Int.reduceLT, Int.reduceAdd, Int.reduceSub, Int.reduceMul, Int.reduceNeg, Int.reduceDiv, Int.reduceMod, Int.reduceTDiv, Int.reduceTMod, Int.reducePow, hs, g1, hlen, d1, f3, w1, w2] <;> (repeat' ((first | with_reducible refine brG_intro (fun hc => ?_) (fun hc => ?_) | with_reducible refine brC_intro (fun hc => ?_) (fun hc => ?_) | ((with_reducible refine c_opsD ?_); have hc := @List.length_nil Nat) | ((with_reducible refine c_opsT ?_); have hc := @List.length_nil Nat) | ((with_reducible refine and_crit ?_ ?_); rfl; have hc := @List.length_nil Nat) | ((with_reducible refine crit_done ?_); rfl; have hc := @List.length_nil Nat) | ((with_reducible refine mkC_go (fun _ => ?_)); have hc := @List.length_nil Nat) | ((with_reducible refine mkL_go (fun _ => ?_)); have hc := @List.length_nil Nat)) <;> (try simp only [Bool.not_eq_true', Bool.not_eq_false', Bool.not_true, Bool.not_false] at hc) <;> (try simp only [hc, go_sem, reduceIte, Nat.reduceEqDiff, Nat.reduceAdd, Int.reduceEq, Nat.reduceLeDiff, Nat.reduceLT, Nat.reduceBEq, Nat.reduceMul, Nat.reduceSub, Int.reduceToNat, Int.reduceLE, Int.reduceLT, Int.reduceAdd, Int.reduceSub, Int.reduceMul, Int.reduceNeg, Int.reduceDiv, Int.reduceMod, Int.reduceTDiv, Int.reduceTMod, Int.reducePow, hs, g1, hlen, d1, f3, w1, w2]))))
        all_goals (refine hk _ _ ⟨?_, rfl, hzd⟩; simp only [go_sem, reduceIte, Nat.reduceEqDiff, Nat.reduceAdd, Int.reduceEq, Nat.reduceLeDiff, Nat.reduceLT, Nat.reduceBEq, Nat.reduceMul, Nat.reduceSub, Int.reduceToNat, Int.reduceLE, Int.reduceLT, Int.reduceAdd, Int.reduceSub, Int.reduceMul, Int.reduceNeg, Int.reduceDiv, Int.reduceMod, Int.reduceTDiv, Int.reduceTMod, Int.reducePow, hs, w1, w2])
    · simp only [Nat.one_ne_zero, if_false] at hk
      by_cases q : l.2 = i
      · have d1 : decide (l.2 = i) = true := decide_eq_true q
        rw [if_pos q] at hk
        (simp only [il52l0_go, il52l0b, go_sem, reduceIte, Nat.reduceEqDiff, Nat.reduceAdd, Int.reduceEq, Nat.reduceLeDiff, Nat.reduceLT, Nat.reduceBEq, Nat.reduceMul, Nat.reduceSub, Int.reduceToNat, Int.reduceLE, Int.reduceLT, Int.reduceAdd, Int.reduceSub, Int.reduceMul, Int.reduceNeg, Int.reduceDiv, Int.reduceMod, Int.reduceTDiv, Int.reduceTMod, Int.reducePow, hs, g1, hlen, d1] <;> (repeat' ((first | with_reducible refine brG_intro (fun hc => ?_) (fun hc => ?_) | with_reducible refine brC_intro (fun hc => ?_) (fun hc => ?_) | ((with_reducible refine c_opsD ?_); have hc := @List.length_nil Nat) | ((with_reducible refine c_opsT ?_); have hc := @List.length_nil Nat) | ((with_reducible refine and_crit ?_ ?_); rfl; have hc := @List.length_nil Nat) | ((with_reducible refine crit_done ?_); rfl; have hc := @List.length_nil Nat) | ((with_reducible refine mkC_go (fun _ => ?_)); have hc := @List.length_nil Nat) | ((with_reducible refine mkL_go (fun _ => ?_)); have hc := @List.length_nil Nat)) <;> (try simp only [Bool.not_eq_true', Bool.not_eq_false', Bool.not_true, Bool.not_false] at hc) <;> (try simp only [hc, go_sem, reduceIte, Nat.reduceEqDiff, Nat.reduceAdd, Int.reduceEq, Nat.reduceLeDiff, Nat.reduceLT, Nat.reduceBEq, Nat.reduceMul, Nat.reduceSub, Int.reduceToNat, Int.reduceLE, Int.reduceLT, Int.reduceAdd, Int.reduceSub, Int.reduceMul, Int.reduceNeg, Int.reduceDiv, Int.reduceMod, Int.reduceTDiv, Int.reduceTMod, Int.reducePow, hs, g1, hlen, d1]))))
        refine hy s ((k : Int), l.1) _ _ hz1 hl.1 ?_
        intro X'
        cases X' with
        | nil =>
          (simp only [il52l0_go, il52l0b, go_sem, reduceIte, Nat.reduceEqDiff, Nat.reduceAdd, Int.reduceEq, Nat.reduceLeDiff, Nat.reduceLT, Nat.reduceBEq, Nat.reduceMul, Nat.reduceSub, Int.reduceToNat, Int.reduceLE, Int.reduceLT, Int.reduceAdd, Int.reduceSub, Int.reduceMul, Int.reduceNeg, Int.reduceDiv, Int.reduceMod, Int.reduceTDiv, Int.reduceTMod, Int.reducePow, hs, g1, hlen, f3, w1, w2] <;> (repeat' ((first | with_reducible refine brG_intro (fun hc => ?_) (fun hc => ?_) | with_reducible refine brC_intro (fun hc => ?_) (fun hc => ?_) | ((with_reducible refine c_opsD ?_); have hc := @List.length_nil Nat) | ((with_reducible refine c_opsT ?_); have hc := @List.length_nil Nat) | ((with_reducible refine and_crit ?_ ?_); rfl; have hc := @List.length_nil Nat) | ((with_reducible refine crit_done ?_); rfl; have hc := @List.length_nil Nat) | ((with_reducible refine mkC_go (fun _ => ?_)); have hc := @List.length_nil Nat) | ((with_reducible refine mkL_go (fun _ => ?_)); have hc := @List.length_nil Nat)) <;> (try simp only [Bool.not_eq_true', Bool.not_eq_false', Bool.not_true, Bool.not_false] at hc) <;> (try simp only [hc, go_sem, reduceIte, Nat.reduceEqDiff, Nat.reduceAdd, Int.reduceEq, Nat.reduceLeDiff, Nat.reduceLT, Nat.reduceBEq, Nat.reduceMul, Nat.reduceSub, Int.reduceToNat, Int.reduceLE, Int.reduceLT, Int.reduceAdd, Int.reduceSub, Int.reduceMul, Int.reduceNeg, Int.reduceDiv, Int.reduceMod, Int.reduceTDiv, Int.reduceTMod, Int.reducePow, hs, g1, hlen, f3, w1, w2]))))
          all_goals (refine hk _ _ ⟨?_, rfl, hzn _ hl.1⟩; simp only [go_sem, reduceIte, Nat.reduceEqDiff, Nat.reduceAdd, Int.reduceEq, Nat.reduceLeDiff, Nat.reduceLT, Nat.reduceBEq, Nat.reduceMul, Nat.reduceSub, Int.reduceToNat, Int.reduceLE, Int.reduceLT, Int.reduceAdd, Int.reduceSub, Int.reduceMul, Int.reduceNeg, Int.reduceDiv, Int.reduceMod, Int.reduceTDiv, Int.reduceTMod, Int.reducePow, hs, w1, w2])
        | cons x X' =>
          have c1 : N + 1 ≤ N + (X'.length + 1 + 1) := by omega
          have c2 : N + 1 < N + (X'.length + 1 + 1) := by omega
          (simp only [il52l0_go, il52l0b, go_sem, reduceIte, Nat.reduceEqDiff, Nat.reduceAdd, Int.reduceEq, Nat.reduceLeDiff, Nat.reduceLT, Nat.reduceBEq, Nat.reduceMul, Nat.reduceSub, Int.reduceToNat, Int.reduceLE, Int.reduceLT, Int.reduceAdd, Int.reduceSub, Int.reduceMul, Int.reduceNeg, Int.reduceDiv, Int.reduceMod, Int.reduceTDiv, Int.reduceTMod, Int.reducePow, hs, List.append_assoc, g1, g2, g3', hlen, c1, c2, f1, f2, frz_yl, w1, w2] <;> (repeat' ((first | with_reducible refine brG_intro (fun hc => ?_) (fun hc => ?_) | with_reducible refine brC_intro (fun hc => ?_) (fun hc => ?_) | ((with_reducible refine c_opsD ?_); have hc := @List.length_nil Nat) | ((with_reducible refine c_opsT ?_); have hc := @List.length_nil Nat) | ((with_reducible refine and_crit ?_ ?_); rfl; have hc := @List.length_nil Nat) | ((with_reducible refine crit_done ?_); rfl; have hc := @List.length_nil Nat) | ((with_reducible refine mkC_go (fun _ => ?_)); have hc := @List.length_nil Nat) | ((with_reducible refine mkL_go (fun _ => ?_)); have hc := @List.length_nil Nat)) <;> (try simp only [Bool.not_eq_true', Bool.not_eq_false', Bool.not_true, Bool.not_false] at hc) <;> (try simp only [hc, go_sem, reduceIte, Nat.reduceEqDiff, Nat.reduceAdd, Int.reduceEq, Nat.reduceLeDiff, Nat.reduceLT, Nat.reduceBEq, Nat.reduceMul, Nat.reduceSub, Int.reduceToNat, Int.reduceLE, Int.reduceLT, Int.reduceAdd, Int.reduceSub, Int.reduceMul, Int.reduceNeg, Int.reduceDiv, Int.reduceMod, Int.reduceTDiv, Int.reduceTMod, Int.reducePow, hs, List.append_assoc, g1, g2, g3', hlen, c1, c2, f1, f2, frz_yl, w1, w2]))))
          all_goals (refine hk _ _ ⟨?_, rfl, hzn _ hl.1⟩; simp only [go_sem, reduceIte, Nat.reduceEqDiff, Nat.reduceAdd, Int.reduceEq, Nat.reduceLeDiff, Nat.reduceLT, Nat.reduceBEq, Nat.reduceMul, Nat.reduceSub, Int.reduceToNat, Int.reduceLE, Int.reduceLT, Int.reduceAdd, Int.reduceSub, Int.reduceMul, Int.reduceNeg, Int.reduceDiv, Int.reduceMod, Int.reduceTDiv, Int.reduceTMod, Int.reducePow, hs, f1, f2, frz_yl, w1, w2])
      · have d1 : decide (l.2 = i) = false := decide_eq_false q
        rw [if_neg q] at hk
        (simp only [il52l0_go, il52l0b, go_sem, reduceIte, Nat.reduceEqDiff, Nat.reduceAdd, Int.reduceEq, Nat.reduceLeDiff, Nat.reduceLT, Nat.reduceBEq, Nat.reduceMul, Nat.reduceSub, Int.reduceToNat, Int.reduceLE, Int.reduceLT, Int.reduceAdd, Int.reduceSub, Int.reduceMul, Int.reduceNeg, Int.reduceDiv, Int.reduceMod, Int.reduceTDiv, Int.reduceTMod, Int.reducePow, hs, g1, hlen, d1, f3, w1, w2] <;> (repeat' ((first | with_reducible refine brG_intro (fun hc => ?_) (fun hc => ?_) | with_reducible refine brC_intro (fun hc => ?_) (fun hc => ?_) | ((with_reducible refine c_opsD ?_); have hc := @List.length_nil Nat) | ((with_reducible refine c_opsT ?_); have hc := @List.length_nil Nat) | ((with_reducible refine and_crit ?_ ?_); rfl; have hc := @List.length_nil Nat) | ((with_reducible refine crit_done ?_); rfl; have hc := @List.length_nil Nat) | ((with_reducible refine mkC_go (fun _ => ?_)); have hc := @List.length_nil Nat) | ((with_reducible refine mkL_go (fun _ => ?_)); have hc := @List.length_nil Nat)) <;> (try simp only [Bool.not_eq_true', Bool.not_eq_false', Bool.not_true, Bool.not_false] at hc) <;> (try simp only [hc, go_sem, reduceIte, Nat.reduceEqDiff, Nat.reduceAdd, Int.reduceEq, Nat.reduceLeDiff, Nat.reduceLT, Nat.reduceBEq, Nat.reduceMul, Nat.reduceSub, Int.reduceToNat, Int.reduceLE, Int.reduceLT, Int.reduceAdd, Int.reduceSub, Int.reduceMul, Int.reduceNeg, Int.reduceDiv, Int.reduceMod, Int.reduceTDiv, Int.reduceTMod, Int.reducePow, hs, g1, hlen, d1, f3, w1, w2]))))
        all_goals (refine hk _ _ ⟨?_, rfl, hzd⟩; simp only [go_sem, reduceIte, Nat.reduceEqDiff, Nat.reduceAdd, Int.reduceEq, Nat.reduceLeDiff, Nat.reduceLT, Nat.reduceBEq, Nat.reduceMul, Nat.reduceSub, Int.reduceToNat, Int.reduceLE, Int.reduceLT, Int.reduceAdd, Int.reduceSub, Int.reduceMul, Int.reduceNeg, Int.reduceDiv, Int.reduceMod, Int.reduceTDiv, Int.reduceTMod, Int.reducePow, hs, w1, w2])
  · intro s e h Y R _ ⟨hs, hh, hzz⟩ hk
    subst hh
    (simp only [il52l0_go, il52l0b, go_sem, reduceIte, Nat.reduceEqDiff, Nat.reduceAdd, Int.reduceEq, Nat.reduceLeDiff, Nat.reduceLT, Nat.reduceBEq, Nat.reduceMul, Nat.reduceSub, Int.reduceToNat, Int.reduceLE, Int.reduceLT, Int.reduceAdd, Int.reduceSub, Int.reduceMul, Int.reduceNeg, Int.reduceDiv, Int.reduceMod, Int.reduceTDiv, Int.reduceTMod, Int.reducePow, hs] <;> (repeat' ((first | with_reducible refine brG_intro (fun hc => ?_) (fun hc => ?_) | with_reducible refine brC_intro (fun hc => ?_) (fun hc => ?_) | ((with_reducible refine c_opsD ?_); have hc := @List.length_nil Nat) | ((with_reducible refine c_opsT ?_); have hc := @List.length_nil Nat) | ((with_reducible refine and_crit ?_ ?_); rfl; have hc := @List.length_nil Nat) | ((with_reducible refine crit_done ?_); rfl; have hc := @List.length_nil Nat) | ((with_reducible refine mkC_go (fun _ => ?_)); have hc := @List.length_nil Nat) | ((with_reducible refine mkL_go (fun _ => ?_)); have hc := @List.length_nil Nat)) <;> (try simp only [Bool.not_eq_true', Bool.not_eq_false', Bool.not_true, Bool.not_false] at hc) <;> (try simp only [hc, go_sem, reduceIte, Nat.reduceEqDiff, Nat.reduceAdd, Int.reduceEq, Nat.reduceLeDiff, Nat.reduceLT, Nat.reduceBEq, Nat.reduceMul, Nat.reduceSub, Int.reduceToNat, Int.reduceLE, Int.reduceLT, Int.reduceAdd, Int.reduceSub, Int.reduceMul, Int.reduceNeg, Int.reduceDiv, Int.reduceMod, Int.reduceTDiv, Int.reduceTMod, Int.reducePow, hs]))))
    all_goals (refine hk _ _ _ ⟨hzz, ?_⟩; simp only [go_sem, reduceIte, Nat.reduceEqDiff, Nat.reduceAdd, Int.reduceEq, Nat.reduceLeDiff, Nat.reduceLT, Nat.reduceBEq, Nat.reduceMul, Nat.reduceSub, Int.reduceToNat, Int.reduceLE, Int.reduceLT, Int.reduceAdd, Int.reduceSub, Int.reduceMul, Int.reduceNeg, Int.reduceDiv, Int.reduceMod, Int.reduceTDiv, Int.reduceTMod, Int.reducePow, hs, id])
  · intro x e h ⟨h0, h1, h2, h3⟩
    subst h2 h3
    have hf : foldC (ρ := σ) (fun j (_ : Unit) s => Ctl.go (if (if j = 0 then l.1 else l.2) = i then nx s ((k : Int), if j = 0 then l.2 else l.1) else s)) id 0 (List.replicate 2 ()) s = (nb1 i k l).foldl nx s := by
      simp only [List.replicate_succ, List.replicate_zero, foldC, id, nb1]
      by_cases q1 : l.1 = i
      · by_cases q2 : l.2 = i <;> simp [q1, q2]
      · by_cases q2 : l.2 = i <;> simp [q1, q2]
    rw [hf] at h0 ⊢
    exact hR _ h0 h1

/-- The neighbours of a node, each handed to the loop's body. -/
theorem nb_iter (i : Int) (ms : T) (lk : List (Int × Int)) (hlk : lk.length ≤ 24) (hlp : ∀ l ∈ lk, Pj l.1 ∧ Pj l.2) (s : σ) (hz : Pz (2 * lk.length) s) (Q : AV → Heap → Prop) (hn : 100 < nn) (hQ : ∀ v, Q v (hp ((nbs i 0 lk).foldl nx s))) :
    oB (inl Try.prog pol (ans Try.prog pol) nn (dd + 1) (.fn 52) [.yl o, .t (.ip [ms, .sl false 2 (lk.map encLk)]), .t (.ip [I' i])] (hp s)) Q := by
  refine oB_inl il52_eq (Nat.le_of_ble_eq_true rfl) ?_
  have g1 : ∀ (s : σ) (x : AObj) (Y : Heap), (hp s ++ (x :: Y))[N]? = some x := fun s x Y => by rw [List.getElem?_append_right (by rw [hN]; omega), hN, Nat.sub_self]; rfl
  have g4 : ∀ (s : σ) (x y : AObj), (hp s ++ [x]).set N y = hp s ++ [y] := fun s x y => by
    show List.set (hp s ++ [x] : List AObj) N y = _
    rw [List.set_append]
    simp [hN]
  have g5 : ∀ (s : σ) (x : AObj), (hp s ++ [x]).take N = hp s := fun s x => by rw [List.take_append, hN, List.take_of_length_le (by rw [hN]; omega)]; simp
  have g6 : ∀ (s : σ) (hx : Heap), mapO (frzObj hx (fromB N)) (hp s) = some (hp s) := fun s hx => hfz s hx N (Nat.le_refl _)
  have hlen : ∀ (s : σ) (Y : Heap), (hp s ++ Y).length = N + Y.length := fun s Y => by simp [hN]
  have f2 : decide (N ≤ o) = false := decide_eq_false (by omega)
  have f4 : N < N + 1 := by omega
  (simp only [il52c, go_sem, reduceIte, Nat.reduceEqDiff, Nat.reduceAdd, Int.reduceEq, Nat.reduceLeDiff, Nat.reduceLT, Nat.reduceBEq, Nat.reduceMul, Nat.reduceSub, Int.reduceToNat, Int.reduceLE, Int.reduceLT, Int.reduceAdd, Int.reduceSub, Int.reduceMul, Int.reduceNeg, Int.reduceDiv, Int.reduceMod, Int.reduceTDiv, Int.reduceTMod, Int.reducePow, hN] <;> (repeat' ((first | with_reducible refine brG_intro (fun hc => ?_) (fun hc => ?_) | with_reducible refine brC_intro (fun hc => ?_) (fun hc => ?_) | ((with_reducible refine c_opsD ?_); have hc := @List.length_nil Nat) | ((with_reducible refine c_opsT ?_); have hc := @List.length_nil Nat) | ((with_reducible refine and_crit ?_ ?_); rfl; have hc := @List.length_nil Nat) | ((with_reducible refine crit_done ?_); rfl; have hc := @List.length_nil Nat) | ((with_reducible refine mkC_go (fun _ => ?_)); have hc := @List.length_nil Nat) | ((with_reducible refine mkL_go (fun _ => ?_)); have hc := @List.length_nil Nat)) <;> (try simp only [Bool.not_eq_true', Bool.not_eq_false', Bool.not_true, Bool.not_false] at hc) <;> (try simp only [hc, go_sem, reduceIte, Nat.reduceEqDiff, Nat.reduceAdd, Int.reduceEq, Nat.reduceLeDiff, Nat.reduceLT, Nat.reduceBEq, Nat.reduceMul, Nat.reduceSub, Int.reduceToNat, Int.reduceLE, Int.reduceLT, Int.reduceAdd, Int.reduceSub, Int.reduceMul, Int.reduceNeg, Int.reduceDiv, Int.reduceMod, Int.reduceTDiv, Int.reduceTMod, Int.reducePow, hN]))))
  refine loop_range lk encLk (step := fun k l s => .go ((nb1 i k l).foldl nx s)) (fin := id)
    (St := fun k s e h => (e 0 = .yl o ∧ e 2 = .t (.ip [I' i]) ∧ e 8 = .t (.sl false 2 (lk.map encLk)) ∧ e 9 = .t (I' (lk.length : Nat)) ∧ e 10 = .t (I' (k : Nat))) ∧ h = hp s ∧ Pz (2 * (lk.length - k)) s)
    (Ex := fun s x e h => x = .exit 0 ∧ h = hp s) (s := s) (by omega) ?_ ?_ (by omega) ?_ ?_
  · intro k l s e h Y R hm hk hx hget hlt hw ⟨hs, hh, hzz⟩ hkk
    subst hh
    simp only [ctlK_go] at hkk
    (simp only [il52l1_go, il52l1b, go_sem, reduceIte, Nat.reduceEqDiff, Nat.reduceAdd, Int.reduceEq, Nat.reduceLeDiff, Nat.reduceLT, Nat.reduceBEq, Nat.reduceMul, Nat.reduceSub, Int.reduceToNat, Int.reduceLE, Int.reduceLT, Int.reduceAdd, Int.reduceSub, Int.reduceMul, Int.reduceNeg, Int.reduceDiv, Int.reduceMod, Int.reduceTDiv, Int.reduceTMod, Int.reducePow, hs, hget, hlt, encLk_cells, hN, g1, g4, hlen] <;> (repeat' ((first | with_reducible refine brG_intro (fun hc => ?_) (fun hc => ?_) | with_reducible refine brC_intro (fun hc => ?_) (fun hc => ?_) | ((with_reducible refine c_opsD ?_); have hc := @List.length_nil Nat) | ((with_reducible refine c_opsT ?_); have hc := @List.length_nil Nat) | ((with_reducible refine and_crit ?_ ?_); rfl; have hc := @List.length_nil Nat) | ((with_reducible refine crit_done ?_); rfl; have hc := @List.length_nil Nat) | ((with_reducible refine mkC_go (fun _ => ?_)); have hc := @List.length_nil Nat) | ((with_reducible refine mkL_go (fun _ => ?_)); have hc := @List.length_nil Nat)) <;> (try simp only [Bool.not_eq_true', Bool.not_eq_false', Bool.not_true, Bool.not_false] at hc) <;> (try simp only [hc, go_sem, reduceIte, Nat.reduceEqDiff, Nat.reduceAdd, Int.reduceEq, Nat.reduceLeDiff, Nat.reduceLT, Nat.reduceBEq, Nat.reduceMul, Nat.reduceSub, Int.reduceToNat, Int.reduceLE, Int.reduceLT, Int.reduceAdd, Int.reduceSub, Int.reduceMul, Int.reduceNeg, Int.reduceDiv, Int.reduceMod, Int.reduceTDiv, Int.reduceTMod, Int.reducePow, hs, hget, hlt, encLk_cells, hN, g1, g4, hlen]))))
    refine nb_inner hp N hN nx dd nn o Pj Pz hPd hPn hy hfz hoN i k l (hlp l hm) (.sl false 2 (lk.map encLk)) (I' (lk.length : Nat)) (I' (k : Nat)) s (2 * (lk.length - (k + 1))) (by rw [show 2 * (lk.length - (k + 1)) + 2 = 2 * (lk.length - k) by omega]; exact hzz) _ _ (by omega) (by simp only [go_sem, reduceIte, Nat.reduceEqDiff, Nat.reduceAdd, Int.reduceEq, Nat.reduceLeDiff, Nat.reduceLT, Nat.reduceBEq, Nat.reduceMul, Nat.reduceSub, Int.reduceToNat, Int.reduceLE, Int.reduceLT, Int.reduceAdd, Int.reduceSub, Int.reduceMul, Int.reduceNeg, Int.reduceDiv, Int.reduceMod, Int.reduceTDiv, Int.reduceTMod, Int.reducePow, hs]) ?_
    intro e' hz' he'
    (simp only [il52l1_go, il52l1b, go_sem, reduceIte, Nat.reduceEqDiff, Nat.reduceAdd, Int.reduceEq, Nat.reduceLeDiff, Nat.reduceLT, Nat.reduceBEq, Nat.reduceMul, Nat.reduceSub, Int.reduceToNat, Int.reduceLE, Int.reduceLT, Int.reduceAdd, Int.reduceSub, Int.reduceMul, Int.reduceNeg, Int.reduceDiv, Int.reduceMod, Int.reduceTDiv, Int.reduceTMod, Int.reducePow, he', hw, hlen, f4, g5, g6, f2, frz_yl] <;> (repeat' ((first | with_reducible refine brG_intro (fun hc => ?_) (fun hc => ?_) | with_reducible refine brC_intro (fun hc => ?_) (fun hc => ?_) | ((with_reducible refine c_opsD ?_); have hc := @List.length_nil Nat) | ((with_reducible refine c_opsT ?_); have hc := @List.length_nil Nat) | ((with_reducible refine and_crit ?_ ?_); rfl; have hc := @List.length_nil Nat) | ((with_reducible refine crit_done ?_); rfl; have hc := @List.length_nil Nat) | ((with_reducible refine mkC_go (fun _ => ?_)); have hc := @List.length_nil Nat) | ((with_reducible refine mkL_go (fun _ => ?_)); have hc := @List.length_nil Nat)) <;> (try simp only [Bool.not_eq_true', Bool.not_eq_false', Bool.not_true, Bool.not_false] at hc) <;> (try simp only [hc, go_sem, reduceIte, Nat.reduceEqDiff, Nat.reduceAdd, Int.reduceEq, Nat.reduceLeDiff, Nat.reduceLT, Nat.reduceBEq, Nat.reduceMul, Nat.reduceSub, Int.reduceToNat, Int.reduceLE, Int.reduceLT, Int.reduceAdd, Int.reduceSub, Int.reduceMul, Int.reduceNeg, Int.reduceDiv, Int.reduceMod, Int.reduceTDiv, Int.reduceTMod, Int.reducePow, he', hw, hlen, f4, g5, g6, f2, frz_yl]))))
    all_goals (refine hkk _ _ ⟨?_, rfl, hz'⟩; simp only [go_sem, reduceIte, Nat.reduceEqDiff, Nat.reduceAdd, Int.reduceEq, Nat.reduceLeDiff, Nat.reduceLT, Nat.reduceBEq, Nat.reduceMul, Nat.reduceSub, Int.reduceToNat, Int.reduceLE, Int.reduceLT, Int.reduceAdd, Int.reduceSub, Int.reduceMul, Int.reduceNeg, Int.reduceDiv, Int.reduceMod, Int.reduceTDiv, Int.reduceTMod, Int.reducePow, he', hw, f2, frz_yl])
  · intro s e h Y R hlt ⟨hs, hh, _⟩ hkk
    subst hh
    (simp only [il52l1_go, il52l1b, go_sem, reduceIte, Nat.reduceEqDiff, Nat.reduceAdd, Int.reduceEq, Nat.reduceLeDiff, Nat.reduceLT, Nat.reduceBEq, Nat.reduceMul, Nat.reduceSub, Int.reduceToNat, Int.reduceLE, Int.reduceLT, Int.reduceAdd, Int.reduceSub, Int.reduceMul, Int.reduceNeg, Int.reduceDiv, Int.reduceMod, Int.reduceTDiv, Int.reduceTMod, Int.reducePow, hs, hlt] <;> (repeat' ((first | with_reducible refine brG_intro (fun hc => ?_) (fun hc => ?_) | with_reducible refine brC_intro (fun hc => ?_) (fun hc => ?_) | ((with_reducible refine c_opsD ?_); have hc := @List.length_nil Nat) | ((with_reducible refine c_opsT ?_); have hc := @List.length_nil Nat) | ((with_reducible refine and_crit ?_ ?_); rfl; have hc := @List.length_nil Nat) | ((with_reducible refine crit_done ?_); rfl; have hc := @List.length_nil Nat) | ((with_reducible refine mkC_go (fun _ => ?_)); have hc := @List.length_nil Nat) | ((with_reducible refine mkL_go (fun _ => ?_)); have hc := @List.length_nil Nat)) <;> (try simp only [Bool.not_eq_true', Bool.not_eq_false', Bool.not_true, Bool.not_false] at hc) <;> (try simp only [hc, go_sem, reduceIte, Nat.reduceEqDiff, Nat.reduceAdd, Int.reduceEq, Nat.reduceLeDiff, Nat.reduceLT, Nat.reduceBEq, Nat.reduceMul, Nat.reduceSub, Int.reduceToNat, Int.reduceLE, Int.reduceLT, Int.reduceAdd, Int.reduceSub, Int.reduceMul, Int.reduceNeg, Int.reduceDiv, Int.reduceMod, Int.reduceTDiv, Int.reduceTMod, Int.reducePow, hs, hlt]))))
    all_goals (refine hkk _ _ _ ?_; simp only [go_sem, reduceIte, Nat.reduceEqDiff, Nat.reduceAdd, Int.reduceEq, Nat.reduceLeDiff, Nat.reduceLT, Nat.reduceBEq, Nat.reduceMul, Nat.reduceSub, Int.reduceToNat, Int.reduceLE, Int.reduceLT, Int.reduceAdd, Int.reduceSub, Int.reduceMul, Int.reduceNeg, Int.reduceDiv, Int.reduceMod, Int.reduceTDiv, Int.reduceTMod, Int.reducePow, id])
  · refine ⟨?_, rfl, hz⟩
    simp only [go_sem, reduceIte, Nat.reduceEqDiff, Nat.reduceAdd, Int.reduceEq, Nat.reduceLeDiff, Nat.reduceLT, Nat.reduceBEq, Nat.reduceMul, Nat.reduceSub, Int.reduceToNat, Int.reduceLE, Int.reduceLT, Int.reduceAdd, Int.reduceSub, Int.reduceMul, Int.reduceNeg, Int.reduceDiv, Int.reduceMod, Int.reduceTDiv, Int.reduceTMod, Int.reducePow]
  · intro x e h ⟨h1, h2⟩
    subst h1
    have hf : ∀ (r : List (Int × Int)) (k : Nat) (s : σ), foldC (ρ := σ) (fun k l s => Ctl.go ((nb1 i k l).foldl nx s)) id k r s = (nbs i k r).foldl nx s := by
      intro r
      induction r with
      | nil => intro k s; rfl
      | cons l r ih => intro k s; rw [foldC_go (s' := (nb1 i k l).foldl nx s) rfl, ih, nbs, List.foldl_append]
    rw [hf] at h2
    subst h2
    (simp only [il52c, go_sem, reduceIte, Nat.reduceEqDiff, Nat.reduceAdd, Int.reduceEq, Nat.reduceLeDiff, Nat.reduceLT, Nat.reduceBEq, Nat.reduceMul, Nat.reduceSub, Int.reduceToNat, Int.reduceLE, Int.reduceLT, Int.reduceAdd, Int.reduceSub, Int.reduceMul, Int.reduceNeg, Int.reduceDiv, Int.reduceMod, Int.reduceTDiv, Int.reduceTMod, Int.reducePow] <;> (repeat' ((first | with_reducible refine brG_intro (fun hc => ?_) (fun hc => ?_) | with_reducible refine brC_intro (fun hc => ?_) (fun hc => ?_) | ((with_reducible refine c_opsD ?_); have hc := @List.length_nil Nat) | ((with_reducible refine c_opsT ?_); have hc := @List.length_nil Nat) | ((with_reducible refine and_crit ?_ ?_); rfl; have hc := @List.length_nil Nat) | ((with_reducible refine crit_done ?_); rfl; have hc := @List.length_nil Nat) | ((with_reducible refine mkC_go (fun _ => ?_)); have hc := @List.length_nil Nat) | ((with_reducible refine mkL_go (fun _ => ?_)); have hc := @List.length_nil Nat)) <;> (try simp only [Bool.not_eq_true', Bool.not_eq_false', Bool.not_true, Bool.not_false] at hc) <;> (try simp only [hc, go_sem, reduceIte, Nat.reduceEqDiff, Nat.reduceAdd, Int.reduceEq, Nat.reduceLeDiff, Nat.reduceLT, Nat.reduceBEq, Nat.reduceMul, Nat.reduceSub, Int.reduceToNat, Int.reduceLE, Int.reduceLT, Int.reduceAdd, Int.reduceSub, Int.reduceMul, Int.reduceNeg, Int.reduceDiv, Int.reduceMod, Int.reduceTDiv, Int.reduceTMod, Int.reducePow]))))
    exact hQ _

end

end Go.Proofs.Ytboknhdkadcaeaa
