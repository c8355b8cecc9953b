/- The offers' iterator. -/
import Derived.Test.YtboknhdkadcaeaaElP
namespace Go.Proofs.Ytboknhdkadcaeaa
open Go Go.Abs
set_option linter.unusedSimpArgs false
set_option linter.unusedVariables false
set_option maxRecDepth 100000
set_option maxHeartbeats 4000000

abbrev vcT (v : Vc) : T := .agg [I' v.m.p1, I' v.m.cl, I' v.m.ac, I' v.m.va, I' v.m.p2, I' v.m.id, I' v.st, I' v.sn, I' v.ln]
def encV (v : Vc) : T := vcT v
theorem encV_cells (v : Vc) : (encV v).cells = [I' v.m.p1, I' v.m.cl, I' v.m.ac, I' v.m.va, I' v.m.p2, I' v.m.id, I' v.st, I' v.sn, I' v.ln] := rfl

theorem neighbours_ans (s : T) (i : Int) (a b : T) (hs : s = .agg [a, b]) (h1 : storableAll (AV.t s).cells = true) : ans Try.prog pol 45 [s, I' i] = some (.fn (.func 52) [] [.ip [a, b], .ip [I' i]]) := by
  subst hs
  refine ans_go 1 1 il45_eq (Nat.le_of_ble_eq_true rfl) ?_
  simp only [cells_agg, List.map_cons, List.map_nil] at h1
  (simp only [il45c, go_sem, reduceIte, Nat.reduceEqDiff, Nat.reduceAdd, Int.reduceEq, Nat.reduceLeDiff, Nat.reduceLT, Nat.reduceBEq, Nat.reduceMul, Nat.reduceSub, Int.reduceToNat, Int.reduceLE, Int.reduceLT, Int.reduceAdd, Int.reduceSub, Int.reduceMul, Int.reduceNeg, Int.reduceDiv, Int.reduceMod, Int.reduceTDiv, Int.reduceTMod, Int.reducePow, h1] <;> (repeat' ((first | with_reducible refine brG_intro (fun hc => ?_) (fun hc => ?_) | with_reducible refine brC_intro (fun hc => ?_) (fun hc => ?_) | ((with_reducible refine c_opsD ?_); have hc := @List.length_nil Nat) | ((with_reducible refine c_opsT ?_); have hc := @List.length_nil Nat) | ((with_reducible refine and_crit ?_ ?_); rfl; have hc := @List.length_nil Nat) | ((with_reducible refine crit_done ?_); rfl; have hc := @List.length_nil Nat) | ((with_reducible refine mkC_go (fun _ => ?_)); have hc := @List.length_nil Nat) | ((with_reducible refine mkL_go (fun _ => ?_)); have hc := @List.length_nil Nat)) <;> (try simp only [Bool.not_eq_true', Bool.not_eq_false', Bool.not_true, Bool.not_false] at hc) <;> (try simp only [hc, go_sem, reduceIte, Nat.reduceEqDiff, Nat.reduceAdd, Int.reduceEq, Nat.reduceLeDiff, Nat.reduceLT, Nat.reduceBEq, Nat.reduceMul, Nat.reduceSub, Int.reduceToNat, Int.reduceLE, Int.reduceLT, Int.reduceAdd, Int.reduceSub, Int.reduceMul, Int.reduceNeg, Int.reduceDiv, Int.reduceMod, Int.reduceTDiv, Int.reduceTMod, Int.reducePow, h1]))))

theorem mapO_app {hx : Heap} {q : Nat} : ∀ (a b a' b' : Heap), mapO (frzObj hx (fromB q)) a = some a' → mapO (frzObj hx (fromB q)) b = some b' → mapO (frzObj hx (fromB q)) (a ++ b) = some (a' ++ b') := by
  intro a
  induction a with
  | nil => intro b a' b' h1 h2; simp only [mapO, Option.some.injEq] at h1; subst h1; simpa using h2
  | cons y a ih =>
    intro b a' b' h1 h2
    simp only [mapO] at h1
    cases hfy : frzObj hx (fromB q) y with
    | none => rw [hfy] at h1; simp at h1
    | some z =>
      rw [hfy] at h1
      cases hm : mapO (frzObj hx (fromB q)) a with
      | none => rw [hm] at h1; simp at h1
      | some w =>
        rw [hm] at h1
        simp only [Option.some.injEq] at h1
        subst h1
        simp only [List.cons_append, mapO, hfy, ih b w b' hm h2]

section
variable {σ : Type} (hp : σ → Heap) (N : Nat) (hN : ∀ s, (hp s).length = N) (nx : σ → Vc → σ) (dd : Nat) (nn : Nat) (o : Nat)
  (hy : ∀ (s : σ) (w : Vc) (X : Heap) (Q : AV → Heap → Prop), (∀ X', Q (.t (B' true)) (hp (nx s w) ++ X ++ X')) → oB (inl Try.prog pol (ans Try.prog pol) nn dd (.yl o) [.t (vcT w)] (hp s ++ X)) Q)
  (hfz : ∀ (s : σ) (h : Heap) (q : Nat), N ≤ q → mapO (frzObj h (fromB q)) (hp s) = some (hp s)) (hoN : o < N)
include hN hy hfz hoN

/-- The loop that waits for neighbours. -/
noncomputable def lpN (E : FEnv) (b : Bool) : AObj := .loop 54 (lpEnv 33 (tidyF (some [3, 4]) E)) [11, 12] (rfOf Try.prog 54 0).1 (rfOf Try.prog 54 0).2 b none
def rwN (o : Nat) : AObj := .row 1 [.yl o] 0

omit hN hfz hoN in
theorem off_yield (cl : Bool) (v : List Vc) (E : FEnv) (hE : E 3 = .t (.ip [.sl cl 9 (v.map encV)]) ∧ E 4 = .ref N 1 0 0) (hN : ∀ s, (hp s).length = N) (hst : ∀ w ∈ v, -1000 ≤ w.st ∧ w.st ≤ 1000) (s : σ) (kj : Int × Int) (hj : 0 ≤ kj.2 ∧ kj.2 < (v.length : Nat)) (X : Heap) (Q : AV → Heap → Prop)
    (hQ : ∀ X', Q (.t (B' true)) (hp (nxO v nx s kj) ++ (rwN o :: lpN E false :: X) ++ X')) :
    oB (inl Try.prog pol (ans Try.prog pol) nn (dd + 1) (.yl (N + 1)) [.t (I' kj.1), .t (I' kj.2)] (hp s ++ (rwN o :: lpN E false :: X))) Q := by
  obtain ⟨k, j⟩ := kj
  simp only at hj
  obtain ⟨j, rfl⟩ := Int.eq_ofNat_of_zero_le hj.1
  obtain ⟨w, hw⟩ : ∃ w, v[j]? = some w := ⟨v[j]'(by omega), by simp⟩
  have hwb := hst w (List.mem_of_getElem? hw)
  have hg : (v.map encV)[j]? = some (encV w) := by simp [hw]
  have q1 : ∀ (s : σ) (x y : AObj) (Y : Heap), (hp s ++ (x :: y :: Y))[N + 1]? = some y := fun s x y Y => by rw [List.getElem?_append_right (by rw [hN]; omega), hN, Nat.add_sub_cancel_left]; rfl
  have q0 : ∀ (s : σ) (x : AObj) (Y : Heap), (hp s ++ (x :: Y))[N]? = some x := fun s x Y => by rw [List.getElem?_append_right (by rw [hN]; omega), hN, Nat.sub_self]; rfl
  have q2 : ∀ (s : σ) (x y z : AObj) (Y : Heap), (hp s ++ (x :: y :: Y)).set (N + 1) z = hp s ++ (x :: z :: Y) := fun s x y z Y => by
    show List.set (hp s ++ (x :: y :: Y) : List AObj) (N + 1) z = _
    rw [List.set_append]
    simp [hN]
    intro h
    omega
  have hlen : ∀ (s : σ) (Y : Heap), (hp s ++ Y).length = N + Y.length := fun s Y => by simp [hN]
  have v1 : IntKind.i64.wrap (w.st + 1) = w.st + 1 := wrap_i64 (by omega) (by omega)
  refine oB_yl (q1 _ _ _ _) rfl rfl il54r0a_eq il54r0b_eq ?_
  by_cases hs : 12 ≤ w.st + 1
  · have d1 : decide (12 ≤ w.st + 1) = true := decide_eq_true hs
    have hn : nxO v nx s (k, (j : Int)) = s := by simp only [nxO, off1, Int.toNat_natCast, hw, if_pos hs]
    rw [hn] at hQ
    have hq := hQ []
    simp only [List.append_nil, lpN] at hq
    simp only [lpN]
    (simp only [il54r0a, il54r0b, go_sem, reduceIte, Nat.reduceEqDiff, Nat.reduceAdd, Int.reduceEq, Nat.reduceLeDiff, Nat.reduceLT, Nat.reduceBEq, Nat.reduceMul, Nat.reduceSub, Int.reduceToNat, Int.reduceLE, Int.reduceLT, Int.reduceAdd, Int.reduceSub, Int.reduceMul, Int.reduceNeg, Int.reduceDiv, Int.reduceMod, Int.reduceTDiv, Int.reduceTMod, Int.reducePow, hE, q1, q2, hg, encV_cells, v1, d1] <;> (repeat' ((first | with_reducible refine brG_intro (fun hc => ?_) (fun hc => ?_) | with_reducible refine brC_intro (fun hc => ?_) (fun hc => ?_) | ((with_reducible refine c_opsD ?_); have hc := @List.length_nil Nat) | ((with_reducible refine c_opsT ?_); have hc := @List.length_nil Nat) | ((with_reducible refine and_crit ?_ ?_); rfl; have hc := @List.length_nil Nat) | ((with_reducible refine crit_done ?_); rfl; have hc := @List.length_nil Nat) | ((with_reducible refine mkC_go (fun _ => ?_)); have hc := @List.length_nil Nat) | ((with_reducible refine mkL_go (fun _ => ?_)); have hc := @List.length_nil Nat)) <;> (try simp only [Bool.not_eq_true', Bool.not_eq_false', Bool.not_true, Bool.not_false] at hc) <;> (try simp only [hc, go_sem, reduceIte, Nat.reduceEqDiff, Nat.reduceAdd, Int.reduceEq, Nat.reduceLeDiff, Nat.reduceLT, Nat.reduceBEq, Nat.reduceMul, Nat.reduceSub, Int.reduceToNat, Int.reduceLE, Int.reduceLT, Int.reduceAdd, Int.reduceSub, Int.reduceMul, Int.reduceNeg, Int.reduceDiv, Int.reduceMod, Int.reduceTDiv, Int.reduceTMod, Int.reducePow, hE, q1, q2, hg, encV_cells, v1, d1]))))
    all_goals exact hq
  · have d1 : decide (12 ≤ w.st + 1) = false := decide_eq_false hs
    have hn : nxO v nx s (k, (j : Int)) = nx s ⟨w.m, w.st + 1, j, k⟩ := by simp only [nxO, off1, Int.toNat_natCast, hw, if_neg hs]
    rw [hn] at hQ
    simp only [lpN, rwN] at hQ ⊢
    (simp only [il54r0a, il54r0b, go_sem, reduceIte, Nat.reduceEqDiff, Nat.reduceAdd, Int.reduceEq, Nat.reduceLeDiff, Nat.reduceLT, Nat.reduceBEq, Nat.reduceMul, Nat.reduceSub, Int.reduceToNat, Int.reduceLE, Int.reduceLT, Int.reduceAdd, Int.reduceSub, Int.reduceMul, Int.reduceNeg, Int.reduceDiv, Int.reduceMod, Int.reduceTDiv, Int.reduceTMod, Int.reducePow, hE, q0, q1, q2, hg, encV_cells, v1, d1] <;> (repeat' ((first | with_reducible refine brG_intro (fun hc => ?_) (fun hc => ?_) | with_reducible refine brC_intro (fun hc => ?_) (fun hc => ?_) | ((with_reducible refine c_opsD ?_); have hc := @List.length_nil Nat) | ((with_reducible refine c_opsT ?_); have hc := @List.length_nil Nat) | ((with_reducible refine and_crit ?_ ?_); rfl; have hc := @List.length_nil Nat) | ((with_reducible refine crit_done ?_); rfl; have hc := @List.length_nil Nat) | ((with_reducible refine mkC_go (fun _ => ?_)); have hc := @List.length_nil Nat) | ((with_reducible refine mkL_go (fun _ => ?_)); have hc := @List.length_nil Nat)) <;> (try simp only [Bool.not_eq_true', Bool.not_eq_false', Bool.not_true, Bool.not_false] at hc) <;> (try simp only [hc, go_sem, reduceIte, Nat.reduceEqDiff, Nat.reduceAdd, Int.reduceEq, Nat.reduceLeDiff, Nat.reduceLT, Nat.reduceBEq, Nat.reduceMul, Nat.reduceSub, Int.reduceToNat, Int.reduceLE, Int.reduceLT, Int.reduceAdd, Int.reduceSub, Int.reduceMul, Int.reduceNeg, Int.reduceDiv, Int.reduceMod, Int.reduceTDiv, Int.reduceTMod, Int.reducePow, hE, q0, q1, q2, hg, encV_cells, v1, d1]))))
    refine hy s ⟨w.m, w.st + 1, j, k⟩ _ _ ?_
    intro X'
    have hq := hQ X'
    have c1 : N + (X.length + 1 + 1) ≤ N + (X.length + X'.length + 1 + 1) := by omega
    have c2 : N + (X.length + 1 + 1) ≤ N + (X.length + 1 + 1 + X'.length) := by omega
    simp only [List.append_assoc, List.cons_append] at hq
    (simp only [il54r0b, go_sem, reduceIte, Nat.reduceEqDiff, Nat.reduceAdd, Int.reduceEq, Nat.reduceLeDiff, Nat.reduceLT, Nat.reduceBEq, Nat.reduceMul, Nat.reduceSub, Int.reduceToNat, Int.reduceLE, Int.reduceLT, Int.reduceAdd, Int.reduceSub, Int.reduceMul, Int.reduceNeg, Int.reduceDiv, Int.reduceMod, Int.reduceTDiv, Int.reduceTMod, Int.reducePow, List.append_assoc, q0, q1, q2, hlen, c1, c2] <;> (repeat' ((first | with_reducible refine brG_intro (fun hc => ?_) (fun hc => ?_) | with_reducible refine brC_intro (fun hc => ?_) (fun hc => ?_) | ((with_reducible refine c_opsD ?_); have hc := @List.length_nil Nat) | ((with_reducible refine c_opsT ?_); have hc := @List.length_nil Nat) | ((with_reducible refine and_crit ?_ ?_); rfl; have hc := @List.length_nil Nat) | ((with_reducible refine crit_done ?_); rfl; have hc := @List.length_nil Nat) | ((with_reducible refine mkC_go (fun _ => ?_)); have hc := @List.length_nil Nat) | ((with_reducible refine mkL_go (fun _ => ?_)); have hc := @List.length_nil Nat)) <;> (try simp only [Bool.not_eq_true', Bool.not_eq_false', Bool.not_true, Bool.not_false] at hc) <;> (try simp only [hc, go_sem, reduceIte, Nat.reduceEqDiff, Nat.reduceAdd, Int.reduceEq, Nat.reduceLeDiff, Nat.reduceLT, Nat.reduceBEq, Nat.reduceMul, Nat.reduceSub, Int.reduceToNat, Int.reduceLE, Int.reduceLT, Int.reduceAdd, Int.reduceSub, Int.reduceMul, Int.reduceNeg, Int.reduceDiv, Int.reduceMod, Int.reduceTDiv, Int.reduceTMod, Int.reducePow, List.append_assoc, q0, q1, q2, hlen, c1, c2]))))
    all_goals exact hq

theorem off_iter (cl : Bool) (i : Int) (ms : T) (hms : storable (.t ms) = true) (lk : List (Int × Int)) (v : List Vc) (hst : ∀ w ∈ v, -1000 ≤ w.st ∧ w.st ≤ 1000) (hlk : lk.length ≤ 24) (hlp : ∀ l ∈ lk, (0 ≤ l.1 ∧ l.1 < (v.length : Nat)) ∧ 0 ≤ l.2 ∧ l.2 < (v.length : Nat)) (s : σ) (Q : AV → Heap → Prop) (hn : 100 < nn)
    (hQ : ∀ x X, Q x (hp ((nbs i 0 lk).foldl (nxO v nx) s) ++ X)) :
    oB (inl Try.prog pol (ans Try.prog pol) nn (dd + 3) (.fn 54) [.yl o, .t (.ip [ms, .sl false 2 (lk.map encLk)]), .t (.ip [I' i]), .t (.ip [.sl cl 9 (v.map encV)])] (hp s)) Q := by
  refine oB_inl il54_eq (Nat.le_of_ble_eq_true rfl) ?_
  have c1 := neighbours_ans (.agg [ms, .sl false 2 (lk.map encLk)]) i ms (.sl false 2 (lk.map encLk)) rfl (by simp only [go_sem, reduceIte, Nat.reduceEqDiff, Nat.reduceAdd, Int.reduceEq, Nat.reduceLeDiff, Nat.reduceLT, Nat.reduceBEq, Nat.reduceMul, Nat.reduceSub, Int.reduceToNat, Int.reduceLE, Int.reduceLT, Int.reduceAdd, Int.reduceSub, Int.reduceMul, Int.reduceNeg, Int.reduceDiv, Int.reduceMod, Int.reduceTDiv, Int.reduceTMod, Int.reducePow, hms])
  (simp only [il54c, go_sem, reduceIte, Nat.reduceEqDiff, Nat.reduceAdd, Int.reduceEq, Nat.reduceLeDiff, Nat.reduceLT, Nat.reduceBEq, Nat.reduceMul, Nat.reduceSub, Int.reduceToNat, Int.reduceLE, Int.reduceLT, Int.reduceAdd, Int.reduceSub, Int.reduceMul, Int.reduceNeg, Int.reduceDiv, Int.reduceMod, Int.reduceTDiv, Int.reduceTMod, Int.reducePow, c1, hN] <;> (repeat' ((first | with_reducible refine brG_intro (fun hc => ?_) (fun hc => ?_) | with_reducible refine brC_intro (fun hc => ?_) (fun hc => ?_) | ((with_reducible refine c_opsD ?_); have hc := @List.length_nil Nat) | ((with_reducible refine c_opsT ?_); have hc := @List.length_nil Nat) | ((with_reducible refine and_crit ?_ ?_); rfl; have hc := @List.length_nil Nat) | ((with_reducible refine crit_done ?_); rfl; have hc := @List.length_nil Nat) | ((with_reducible refine mkC_go (fun _ => ?_)); have hc := @List.length_nil Nat) | ((with_reducible refine mkL_go (fun _ => ?_)); have hc := @List.length_nil Nat)) <;> (try simp only [Bool.not_eq_true', Bool.not_eq_false', Bool.not_true, Bool.not_false] at hc) <;> (try simp only [hc, go_sem, reduceIte, Nat.reduceEqDiff, Nat.reduceAdd, Int.reduceEq, Nat.reduceLeDiff, Nat.reduceLT, Nat.reduceBEq, Nat.reduceMul, Nat.reduceSub, Int.reduceToNat, Int.reduceLE, Int.reduceLT, Int.reduceAdd, Int.reduceSub, Int.reduceMul, Int.reduceNeg, Int.reduceDiv, Int.reduceMod, Int.reduceTDiv, Int.reduceTMod, Int.reducePow, c1, hN]))))
  simp only [List.append_assoc, List.cons_append, List.nil_append]
  have q1 : ∀ (s : σ) (x y : AObj) (Y : Heap), (hp s ++ (x :: y :: Y))[N + 1]? = some y := fun s x y Y => by rw [List.getElem?_append_right (by rw [hN]; omega), hN, Nat.add_sub_cancel_left]; rfl
  have q2 : ∀ (s : σ) (x y z : AObj) (Y : Heap), (hp s ++ (x :: y :: Y)).set (N + 1) z = hp s ++ (x :: z :: Y) := fun s x y z Y => by
    show List.set (hp s ++ (x :: y :: Y) : List AObj) (N + 1) z = _
    rw [List.set_append]
    simp [hN]
    intro h
    omega
  have hlen : ∀ (s : σ) (Y : Heap), (hp s ++ Y).length = N + Y.length := fun s Y => by simp [hN]
  refine nb_iter (fun s => hp s ++ [rwN o, lpN _ false]) (N + 2) (fun s => by simp [hN]) (nxO v nx) (dd + 1) nn (N + 1) (fun j => 0 ≤ j ∧ j < (v.length : Nat)) (fun _ _ => True) (fun _ _ _ => trivial) (fun _ _ _ _ _ => trivial) ?_ ?_ (by omega) i ms lk hlk hlp s trivial _ hn ?_
  · intro s kj X Q _ hj hQ
    simp only [List.append_assoc, List.cons_append, List.nil_append] at hQ ⊢
    refine off_yield hp N nx dd nn o hy cl v _ ?_ hN hst s kj hj X Q ?_
    · simp only [go_sem, reduceIte, Nat.reduceEqDiff, Nat.reduceAdd, Int.reduceEq, Nat.reduceLeDiff, Nat.reduceLT, Nat.reduceBEq, Nat.reduceMul, Nat.reduceSub, Int.reduceToNat, Int.reduceLE, Int.reduceLT, Int.reduceAdd, Int.reduceSub, Int.reduceMul, Int.reduceNeg, Int.reduceDiv, Int.reduceMod, Int.reduceTDiv, Int.reduceTMod, Int.reducePow, and_self]
    · intro X'
      have h := hQ X'
      simp only [List.append_assoc, List.cons_append, List.nil_append]
      exact h
  · intro s h q hq
    refine mapO_app _ _ _ _ (hfz s h q (by omega)) ?_
    have f1 : decide (q ≤ o) = false := decide_eq_false (by omega)
    have f2 : decide (q ≤ N) = false := decide_eq_false (by omega)
    have f3 : frzObj h (fromB q) (rwN o) = some (rwN o) := by
      simp only [rwN, go_sem, reduceIte, Nat.reduceEqDiff, Nat.reduceAdd, Int.reduceEq, Nat.reduceLeDiff, Nat.reduceLT, Nat.reduceBEq, Nat.reduceMul, Nat.reduceSub, Int.reduceToNat, Int.reduceLE, Int.reduceLT, Int.reduceAdd, Int.reduceSub, Int.reduceMul, Int.reduceNeg, Int.reduceDiv, Int.reduceMod, Int.reduceTDiv, Int.reduceTMod, Int.reducePow, f1]
    simp only [mapO, f3]
    rw [lpN, frz_loop (by simp only [go_sem, reduceIte, Nat.reduceEqDiff, Nat.reduceAdd, Int.reduceEq, Nat.reduceLeDiff, Nat.reduceLT, Nat.reduceBEq, Nat.reduceMul, Nat.reduceSub, Int.reduceToNat, Int.reduceLE, Int.reduceLT, Int.reduceAdd, Int.reduceSub, Int.reduceMul, Int.reduceNeg, Int.reduceDiv, Int.reduceMod, Int.reduceTDiv, Int.reduceTMod, Int.reducePow, f2])]
  · intro x
    simp only [lpN, rwN]
    have c2 : N + 1 < N + (0 + 1 + 1) := by omega
    have q5 : ∀ (s : σ) (x y : AObj), (hp s ++ [x, y]).take (N + 1) = hp s ++ [x] := fun s x y => by
      rw [List.take_append, hN, List.take_of_length_le (by rw [hN]; omega), Nat.add_sub_cancel_left]; rfl
    have f1 : decide (N + 1 ≤ o) = false := decide_eq_false (by omega)
    have f2 : decide (N + 1 ≤ N) = false := decide_eq_false (by omega)
    have f3 : ∀ (s : σ) (hx : Heap), mapO (frzObj hx (fromB (N + 1))) (hp s ++ [.row 1 [.yl o] 0]) = some (hp s ++ [.row 1 [.yl o] 0]) := fun s hx =>
      mapO_app _ _ _ _ (hfz s hx (N + 1) (by omega)) (by simp only [mapO, go_sem, reduceIte, Nat.reduceEqDiff, Nat.reduceAdd, Int.reduceEq, Nat.reduceLeDiff, Nat.reduceLT, Nat.reduceBEq, Nat.reduceMul, Nat.reduceSub, Int.reduceToNat, Int.reduceLE, Int.reduceLT, Int.reduceAdd, Int.reduceSub, Int.reduceMul, Int.reduceNeg, Int.reduceDiv, Int.reduceMod, Int.reduceTDiv, Int.reduceTMod, Int.reducePow, f1])
    (simp only [il54c, go_sem, reduceIte, Nat.reduceEqDiff, Nat.reduceAdd, Int.reduceEq, Nat.reduceLeDiff, Nat.reduceLT, Nat.reduceBEq, Nat.reduceMul, Nat.reduceSub, Int.reduceToNat, Int.reduceLE, Int.reduceLT, Int.reduceAdd, Int.reduceSub, Int.reduceMul, Int.reduceNeg, Int.reduceDiv, Int.reduceMod, Int.reduceTDiv, Int.reduceTMod, Int.reducePow, q1, q2, hlen, c2, q5, f3] <;> (repeat' ((first | with_reducible refine brG_intro (fun hc => ?_) (fun hc => ?_) | with_reducible refine brC_intro (fun hc => ?_) (fun hc => ?_) | ((with_reducible refine c_opsD ?_); have hc := @List.length_nil Nat) | ((with_reducible refine c_opsT ?_); have hc := @List.length_nil Nat) | ((with_reducible refine and_crit ?_ ?_); rfl; have hc := @List.length_nil Nat) | ((with_reducible refine crit_done ?_); rfl; have hc := @List.length_nil Nat) | ((with_reducible refine mkC_go (fun _ => ?_)); have hc := @List.length_nil Nat) | ((with_reducible refine mkL_go (fun _ => ?_)); have hc := @List.length_nil Nat)) <;> (try simp only [Bool.not_eq_true', Bool.not_eq_false', Bool.not_true, Bool.not_false] at hc) <;> (try simp only [hc, go_sem, reduceIte, Nat.reduceEqDiff, Nat.reduceAdd, Int.reduceEq, Nat.reduceLeDiff, Nat.reduceLT, Nat.reduceBEq, Nat.reduceMul, Nat.reduceSub, Int.reduceToNat, Int.reduceLE, Int.reduceLT, Int.reduceAdd, Int.reduceSub, Int.reduceMul, Int.reduceNeg, Int.reduceDiv, Int.reduceMod, Int.reduceTDiv, Int.reduceTMod, Int.reducePow, q1, q2, hlen, c2, q5, f3]))))
    all_goals exact hQ _ _

end

end Go.Proofs.Ytboknhdkadcaeaa
