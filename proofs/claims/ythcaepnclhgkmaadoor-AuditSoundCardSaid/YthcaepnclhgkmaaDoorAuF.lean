/- The first fault of a note. -/
import Derived.Test.YthcaepnclhgkmaaDoorAuE
namespace Go.Proofs.YthcaepnclhgkmaaDoor
open Go Go.Abs
set_option linter.unusedSimpArgs false
set_option linter.unusedVariables false
set_option maxRecDepth 100000
set_option maxHeartbeats 8000000

def fnA (i : Nat) : AV := match i with
  | 0 => .fn (.func 43) [.ref 4 1 0 0] []
  | 1 => .fn (.func 44) [] [.ref 7 1 0 0]
  | 2 => .fn (.func 45) [] [.ref 7 1 0 0]
  | 3 => .fn (.func 46) [] [.ref 7 1 0 0]
  | 4 => .fn (.func 47) [] [.ref 7 1 0 0]
  | 5 => .fn (.func 48) [] [.ref 7 1 0 0]
  | _ => .fn (.func 49) [.ref 4 1 0 0] []
def ckC : List AV := [.t (J 1), .fn (.func 43) [.ref 4 1 0 0] [], .t (J 2), .fn (.func 44) [] [.ref 7 1 0 0], .t (J 3), .fn (.func 45) [] [.ref 7 1 0 0], .t (J 4), .fn (.func 46) [] [.ref 7 1 0 0], .t (J 5), .fn (.func 47) [] [.ref 7 1 0 0], .t (J 6), .fn (.func 48) [] [.ref 7 1 0 0], .t (J 7), .fn (.func 49) [.ref 4 1 0 0] []]
def ckv : AV := .agg ckC
def ckB (rs : List Ru) (F : Fates) (W : List (Int × Int)) (x : Nt) (i : Nat) : Bool := match i with
  | 0 => !(ruleOf rs x.s).isSome
  | 1 => decide (x.k = 1) && (fget F x.s x.q).sent
  | 2 => decide (x.k = 2) && !(fget F x.s x.q).sent
  | 3 => decide (x.k = 2) && (fget F x.s x.q).got
  | 4 => decide (x.k = 2) && decide (x.t - (fget F x.s x.q).at_ < (ruleD rs x.s).le)
  | 5 => decide (x.k = 2) && decide ((ruleD rs x.s).mo < x.t - (fget F x.s x.q).at_)
  | _ => decide (x.k = 2) && ((ruleD rs x.s).od && ovt W x.s (fget F x.s x.q).ix)

theorem ck_fold {rs : List Ru} {F : Fates} {W : List (Int × Int)} {x : Nt} (hk : x.k = 1 ∨ x.k = 2) : foldC (fun i (_ : Unit) (_ : Unit) => if ckB rs F W x i = true then Ctl.out ((i : Nat) + 1 : Int) else Ctl.go ()) (fun _ => 0) 0 (List.replicate 7 ()) () = pk rs F W x := by
  simp only [List.replicate_succ, List.replicate_zero, foldC, ckB, pk, ruleD]
  have hor : ruleOf rs x.s = none ∨ ∃ r, ruleOf rs x.s = some r := by cases h : ruleOf rs x.s <;> simp
  rcases hor with hr | ⟨r, hr⟩
  · simp [hr]
  · simp only [hr, Option.isSome_some, Option.getD_some, Bool.not_true, Bool.false_eq_true, if_false]
    rcases hk with hk | hk
    · simp only [hk]
      cases (fget F x.s x.q).sent <;> simp
    · have h1 : ¬ x.k = 1 := by omega
      simp only [hk]
      cases (fget F x.s x.q).sent <;> cases (fget F x.s x.q).got <;> by_cases h5 : x.t - (fget F x.s x.q).at_ < r.le <;> by_cases h6 : r.mo < x.t - (fget F x.s x.q).at_ <;> cases r.od <;> cases ovt W x.s (fget F x.s x.q).ix <;> simp [h5, h6]

def atB (F : Fates) : Prop := ∀ s q, 0 ≤ (fget F s q).at_ ∧ (fget F s q).at_ ≤ 1099511627776
theorem atB_nil : atB [] := fun s q => by simp [fget, mget]
theorem atB_lrn {F : Fates} (h : atB F) (i : Nat) {x : Nt} (hx : 0 ≤ x.t ∧ x.t ≤ 1099511627776) : atB (lrnF i x F) := by
  intro s q
  unfold lrnF
  split
  · rw [fget_put]; split
    · exact hx
    · exact h s q
  · rw [fget_put]; split
    · exact h x.s x.q
    · exact h s q

theorem frz_ck (h : Heap) {n : Nat} (hn : 8 ≤ n) : frzObj h (fromB n) (.row 14 [ckv] 1) = some (.row 14 [ckv] 1) := by
  have h4 : decide (n ≤ 4) = false := decide_eq_false (by omega)
  have h7 : decide (n ≤ 7) = false := decide_eq_false (by omega)
  simp [frzObj, ckv, ckC, avoidAll, avoid, fromB, h4, h7]

theorem frz_ckv (h : Heap) {n : Nat} (hn : 8 ≤ n) : frz h (fromB n) ckv = some ckv := by
  have h4 : decide (n ≤ 4) = false := decide_eq_false (by omega)
  have h7 : decide (n ≤ 7) = false := decide_eq_false (by omega)
  simp [frz, ckv, ckC, avoidAll, avoid, fromB, h4, h7]

/-- The seven checks of a note. -/
theorem cks_in (rs : List Ru) (F : Fates) (W : List (Int × Int)) (x : Nt) (hk : x.k = 1 ∨ x.k = 2) (ht : 0 ≤ x.t ∧ x.t ≤ 1099511627776) (hF : atB F) (o0 : AObj) (nn dd : Nat) (hn : 10 < nn) (ho : ∀ (h : Heap) (p : Nat → Bool), frzObj h p o0 = some o0) (D E G : T) (j : Nat) (R : Xit → FEnv → Heap → Prop) (e : FEnv)
    (he : e 0 = .ref 4 1 0 0 ∧ e 4 = .ref 5 1 0 0 ∧ e 5 = .ref 6 1 0 0 ∧ e 6 = .ref 9 1 0 0 ∧ e 7 = .t (J (j : Nat)) ∧ e 8 = .ref 10 1 0 0 ∧ e 13 = .t D ∧ e 14 = .t E ∧ e 15 = .t G ∧ e 20 = ckv ∧ e 21 = .t (J 0))
    (hR1 : pk rs F W x ≠ 0 → ∀ e X, (e 4 = .ref 5 1 0 0 ∧ e 5 = .ref 6 1 0 0) → R (.exit 0) e ([o0, mR rs, mF F, mW W, oA, .row 4 [.t (.agg [J 0, J 0, J 0, J 0])] 0, .row 4 [.t (.agg [J (pk rs F W x), J (j : Nat), J x.s, J x.q])] 1] ++ X))
    (hR2 : pk rs F W x = 0 → ∀ e, (e 0 = .ref 4 1 0 0 ∧ e 4 = .ref 5 1 0 0 ∧ e 5 = .ref 6 1 0 0 ∧ e 6 = .ref 9 1 0 0 ∧ e 7 = .t (J (j : Nat)) ∧ e 8 = .ref 10 1 0 0 ∧ e 13 = .t D ∧ e 14 = .t E ∧ e 15 = .t G) → R (.exit 2) e (H11 rs F W o0 (.row 4 [.t (.agg [J 0, J 0, J 0, J 0])] 0) (.row 4 [.t (.agg [J 0, J 0, J 0, J 0])] 0) (.row 14 [ckv] 1) (.row 14 [ckv] 1) (.row 4 [.t (encN x)] 1))) :
    wpIter 11 (some [0, 4, 5, 6, 7, 8, 13, 14, 15, 20, 21]) (wc Tryd.prog pol (ans Tryd.prog pol) (inl Tryd.prog pol (ans Tryd.prog pol) nn (dd + 1)) nn 30 il30l0) R nn e (H11 rs F W o0 (.row 4 [.t (.agg [J 0, J 0, J 0, J 0])] 0) (.row 4 [.t (.agg [J 0, J 0, J 0, J 0])] 0) (.row 14 [ckv] 1) (.row 14 [ckv] 1) (.row 4 [.t (encN x)] 1)) := by
  have hwr : IntKind.i64.wrap (x.t - (fget F x.s x.q).at_) = x.t - (fget F x.s x.q).at_ := by have := hF x.s x.q; exact wrap_i64 (by omega) (by omega)
  refine loop_upto 7 (step := fun i (_ : Unit) => if ckB rs F W x i = true then Ctl.out ((i : Nat) + 1 : Int) else Ctl.go ()) (fin := fun _ => 0)
    (St := fun i _ e h => (e 0 = .ref 4 1 0 0 ∧ e 4 = .ref 5 1 0 0 ∧ e 5 = .ref 6 1 0 0 ∧ e 6 = .ref 9 1 0 0 ∧ e 7 = .t (J (j : Nat)) ∧ e 8 = .ref 10 1 0 0 ∧ e 13 = .t D ∧ e 14 = .t E ∧ e 15 = .t G ∧ e 20 = ckv ∧ e 21 = .t (J (i : Nat))) ∧ h = H11 rs F W o0 (.row 4 [.t (.agg [J 0, J 0, J 0, J 0])] 0) (.row 4 [.t (.agg [J 0, J 0, J 0, J 0])] 0) (.row 14 [ckv] 1) (.row 14 [ckv] 1) (.row 4 [.t (encN x)] 1))
    (Ex := fun n y e h => n = 0 ∧ y = .exit 2 ∧ (e 0 = .ref 4 1 0 0 ∧ e 4 = .ref 5 1 0 0 ∧ e 5 = .ref 6 1 0 0 ∧ e 6 = .ref 9 1 0 0 ∧ e 7 = .t (J (j : Nat)) ∧ e 8 = .ref 10 1 0 0 ∧ e 13 = .t D ∧ e 14 = .t E ∧ e 15 = .t G) ∧ h = H11 rs F W o0 (.row 4 [.t (.agg [J 0, J 0, J 0, J 0])] 0) (.row 4 [.t (.agg [J 0, J 0, J 0, J 0])] 0) (.row 14 [ckv] 1) (.row 14 [ckv] 1) (.row 4 [.t (encN x)] 1)
      ∨ n ≠ 0 ∧ y = .exit 0 ∧ (e 4 = .ref 5 1 0 0 ∧ e 5 = .ref 6 1 0 0) ∧ ∃ X, h = [o0, mR rs, mF F, mW W, oA, .row 4 [.t (.agg [J 0, J 0, J 0, J 0])] 0, .row 4 [.t (.agg [J n, J (j : Nat), J x.s, J x.q])] 1] ++ X) (s := ()) (by omega) ?_ ?_ (by omega) ⟨he, rfl⟩ ?_
  · intro i _ e h Y R hi _ hw ⟨hs, hh⟩ hK
    subst hh
    have dd7 : decide ((i : Int) < 7) = true := decide_eq_true (by omega)
    have h7 : i = 0 ∨ i = 1 ∨ i = 2 ∨ i = 3 ∨ i = 4 ∨ i = 5 ∨ i = 6 := by omega
    rcases h7 with rfl | rfl | rfl | rfl | rfl | rfl | rfl
    · have tk : takeR true 2 ckC = some (.agg [.t (J 1), .fn (.func 43) [.ref 4 1 0 0] []]) := rfl
      have tk0 : takeR true 2 (ckC.drop 0) = some (.agg [.t (J 1), .fn (.func 43) [.ref 4 1 0 0] []]) := rfl
      have cv : ckv.cells = ckC := rfl
      have sf : ∀ f a b, storable (AV.fn f a b) = true := fun _ _ _ => rfl
      have cf : ∀ f a b, (AV.fn f a b).cells = [.fn f a b] := fun _ _ _ => rfl
      have nf : ∀ f a b r, allT (AV.fn f a b :: r) = none := fun _ _ _ _ => rfl
      have af : ∀ f a b, (AV.fn f a b).isAgg = false := fun _ _ _ => rfl
      have av : ckv.isAgg = true := rfl
      simp only [H11, oA, encN] at hK ⊢
      (simp only [il30l0_go, il30l0b, go_sem, reduceIte, Nat.reduceEqDiff, Nat.reduceAdd, Int.reduceEq, Nat.reduceLeDiff, Nat.reduceLT, Nat.reduceBEq, Nat.reduceMul, Nat.reduceSub, Int.reduceToNat, Int.reduceLE, Int.reduceLT, Int.reduceAdd, Int.reduceSub, Int.reduceMul, Int.reduceNeg, Int.reduceDiv, Int.reduceMod, Int.reduceTDiv, Int.reduceTMod, Int.reducePow, hs, dd7, tk, tk0, cv, av, sf, cf, af, nf] <;> (repeat' ((first | with_reducible refine brG_intro (fun hc => ?_) (fun hc => ?_) | with_reducible refine brC_intro (fun hc => ?_) (fun hc => ?_) | ((with_reducible refine c_opsD ?_); have hc := @List.length_nil Nat) | ((with_reducible refine c_opsT ?_); have hc := @List.length_nil Nat) | ((with_reducible refine and_crit ?_ ?_); rfl; have hc := @List.length_nil Nat) | ((with_reducible refine crit_done ?_); rfl) | ((with_reducible refine mkC_go (fun _ => ?_)); have hc := @List.length_nil Nat) | ((with_reducible refine mkL_go (fun _ => ?_)); have hc := @List.length_nil Nat)) <;> (try simp only [Bool.not_eq_true', Bool.not_eq_false', Bool.not_true, Bool.not_false] at hc) <;> (try simp only [hc, go_sem, reduceIte, Nat.reduceEqDiff, Nat.reduceAdd, Int.reduceEq, Nat.reduceLeDiff, Nat.reduceLT, Nat.reduceBEq, Nat.reduceMul, Nat.reduceSub, Int.reduceToNat, Int.reduceLE, Int.reduceLT, Int.reduceAdd, Int.reduceSub, Int.reduceMul, Int.reduceNeg, Int.reduceDiv, Int.reduceMod, Int.reduceTDiv, Int.reduceTMod, Int.reducePow, hs, dd7, tk, tk0, cv, av, sf, cf, af, nf]))))
      change oB (inl _ _ _ _ _ _ _ (H12 rs F W o0 (.row 4 [.t (.agg [J 0, J 0, J 0, J 0])] 0) (.row 4 [.t (.agg [J 0, J 0, J 0, J 0])] 0) (.row 14 [ckv] 1) (.row 14 [ckv] 1) (.row 4 [.t (encN x)] 1) (.row 2 [.agg [.t (J 1), .fn (.func 43) [.ref 4 1 0 0] []]] 1))) _
      refine unk_in rs F W x o0 _ _ _ _ _ _ nn dd _ ?_
      intro X
      simp only [H12, oA, encN, List.cons_append, List.nil_append]
      cases hb : ckB rs F W x 0 with
      | true =>
        rw [hb] at hK
        simp only [if_true, ctlK_out] at hK
        simp only [ckB] at hb
        rw [hb]
        (simp only [il30l0_go, il30l0b, go_sem, reduceIte, Nat.reduceEqDiff, Nat.reduceAdd, Int.reduceEq, Nat.reduceLeDiff, Nat.reduceLT, Nat.reduceBEq, Nat.reduceMul, Nat.reduceSub, Int.reduceToNat, Int.reduceLE, Int.reduceLT, Int.reduceAdd, Int.reduceSub, Int.reduceMul, Int.reduceNeg, Int.reduceDiv, Int.reduceMod, Int.reduceTDiv, Int.reduceTMod, Int.reducePow, hs] <;> (repeat' ((first | with_reducible refine brG_intro (fun hc => ?_) (fun hc => ?_) | with_reducible refine brC_intro (fun hc => ?_) (fun hc => ?_) | ((with_reducible refine c_opsD ?_); have hc := @List.length_nil Nat) | ((with_reducible refine c_opsT ?_); have hc := @List.length_nil Nat) | ((with_reducible refine and_crit ?_ ?_); rfl; have hc := @List.length_nil Nat) | ((with_reducible refine crit_done ?_); rfl) | ((with_reducible refine mkC_go (fun _ => ?_)); have hc := @List.length_nil Nat) | ((with_reducible refine mkL_go (fun _ => ?_)); have hc := @List.length_nil Nat)) <;> (try simp only [Bool.not_eq_true', Bool.not_eq_false', Bool.not_true, Bool.not_false] at hc) <;> (try simp only [hc, go_sem, reduceIte, Nat.reduceEqDiff, Nat.reduceAdd, Int.reduceEq, Nat.reduceLeDiff, Nat.reduceLT, Nat.reduceBEq, Nat.reduceMul, Nat.reduceSub, Int.reduceToNat, Int.reduceLE, Int.reduceLT, Int.reduceAdd, Int.reduceSub, Int.reduceMul, Int.reduceNeg, Int.reduceDiv, Int.reduceMod, Int.reduceTDiv, Int.reduceTMod, Int.reducePow, hs]))))
        all_goals (refine hK _ _ _ (.inr ⟨by omega, rfl, ?_, _, rfl⟩); simp only [go_sem, reduceIte, Nat.reduceEqDiff, Nat.reduceAdd, Int.reduceEq, Nat.reduceLeDiff, Nat.reduceLT, Nat.reduceBEq, Nat.reduceMul, Nat.reduceSub, Int.reduceToNat, Int.reduceLE, Int.reduceLT, Int.reduceAdd, Int.reduceSub, Int.reduceMul, Int.reduceNeg, Int.reduceDiv, Int.reduceMod, Int.reduceTDiv, Int.reduceTMod, Int.reducePow, hs])
      | false =>
        rw [hb] at hK
        simp only [Bool.false_eq_true, if_false, ctlK_go] at hK
        simp only [ckB] at hb
        rw [hb]
        have c11 : 11 < X.length + 1 + 1 + 1 + 1 + 1 + 1 + 1 + 1 + 1 + 1 + 1 + 1 := by omega
        (simp only [il30l0_go, il30l0b, go_sem, reduceIte, Nat.reduceEqDiff, Nat.reduceAdd, Int.reduceEq, Nat.reduceLeDiff, Nat.reduceLT, Nat.reduceBEq, Nat.reduceMul, Nat.reduceSub, Int.reduceToNat, Int.reduceLE, Int.reduceLT, Int.reduceAdd, Int.reduceSub, Int.reduceMul, Int.reduceNeg, Int.reduceDiv, Int.reduceMod, Int.reduceTDiv, Int.reduceTMod, Int.reducePow, hs, hw, c11, frzR, frzF', frzW, frz_ck, ho, frz_ckv] <;> (repeat' ((first | with_reducible refine brG_intro (fun hc => ?_) (fun hc => ?_) | with_reducible refine brC_intro (fun hc => ?_) (fun hc => ?_) | ((with_reducible refine c_opsD ?_); have hc := @List.length_nil Nat) | ((with_reducible refine c_opsT ?_); have hc := @List.length_nil Nat) | ((with_reducible refine and_crit ?_ ?_); rfl; have hc := @List.length_nil Nat) | ((with_reducible refine crit_done ?_); rfl) | ((with_reducible refine mkC_go (fun _ => ?_)); have hc := @List.length_nil Nat) | ((with_reducible refine mkL_go (fun _ => ?_)); have hc := @List.length_nil Nat)) <;> (try simp only [Bool.not_eq_true', Bool.not_eq_false', Bool.not_true, Bool.not_false] at hc) <;> (try simp only [hc, go_sem, reduceIte, Nat.reduceEqDiff, Nat.reduceAdd, Int.reduceEq, Nat.reduceLeDiff, Nat.reduceLT, Nat.reduceBEq, Nat.reduceMul, Nat.reduceSub, Int.reduceToNat, Int.reduceLE, Int.reduceLT, Int.reduceAdd, Int.reduceSub, Int.reduceMul, Int.reduceNeg, Int.reduceDiv, Int.reduceMod, Int.reduceTDiv, Int.reduceTMod, Int.reducePow, hs, hw, c11, frzR, frzF', frzW, frz_ck, ho, frz_ckv]))))
        all_goals (refine hK _ _ ⟨?_, rfl⟩; simp only [go_sem, reduceIte, Nat.reduceEqDiff, Nat.reduceAdd, Int.reduceEq, Nat.reduceLeDiff, Nat.reduceLT, Nat.reduceBEq, Nat.reduceMul, Nat.reduceSub, Int.reduceToNat, Int.reduceLE, Int.reduceLT, Int.reduceAdd, Int.reduceSub, Int.reduceMul, Int.reduceNeg, Int.reduceDiv, Int.reduceMod, Int.reduceTDiv, Int.reduceTMod, Int.reducePow, hs, hw, frz_ckv])
    · have tk : takeR true 2 (ckC.drop (1 * 2)) = some (.agg [.t (J 2), .fn (.func 44) [] [.ref 7 1 0 0]]) := rfl
      have tk0 : takeR true 2 (ckC.drop 2) = some (.agg [.t (J 2), .fn (.func 44) [] [.ref 7 1 0 0]]) := rfl
      have cv : ckv.cells = ckC := rfl
      have sf : ∀ f a b, storable (AV.fn f a b) = true := fun _ _ _ => rfl
      have cf : ∀ f a b, (AV.fn f a b).cells = [.fn f a b] := fun _ _ _ => rfl
      have nf : ∀ f a b r, allT (AV.fn f a b :: r) = none := fun _ _ _ _ => rfl
      have af : ∀ f a b, (AV.fn f a b).isAgg = false := fun _ _ _ => rfl
      have av : ckv.isAgg = true := rfl
      simp only [H11, oA, encN] at hK ⊢
      (simp only [il30l0_go, il30l0b, go_sem, reduceIte, Nat.reduceEqDiff, Nat.reduceAdd, Int.reduceEq, Nat.reduceLeDiff, Nat.reduceLT, Nat.reduceBEq, Nat.reduceMul, Nat.reduceSub, Int.reduceToNat, Int.reduceLE, Int.reduceLT, Int.reduceAdd, Int.reduceSub, Int.reduceMul, Int.reduceNeg, Int.reduceDiv, Int.reduceMod, Int.reduceTDiv, Int.reduceTMod, Int.reducePow, hs, dd7, tk, tk0, cv, av, sf, cf, af, nf] <;> (repeat' ((first | with_reducible refine brG_intro (fun hc => ?_) (fun hc => ?_) | with_reducible refine brC_intro (fun hc => ?_) (fun hc => ?_) | ((with_reducible refine c_opsD ?_); have hc := @List.length_nil Nat) | ((with_reducible refine c_opsT ?_); have hc := @List.length_nil Nat) | ((with_reducible refine and_crit ?_ ?_); rfl; have hc := @List.length_nil Nat) | ((with_reducible refine crit_done ?_); rfl) | ((with_reducible refine mkC_go (fun _ => ?_)); have hc := @List.length_nil Nat) | ((with_reducible refine mkL_go (fun _ => ?_)); have hc := @List.length_nil Nat)) <;> (try simp only [Bool.not_eq_true', Bool.not_eq_false', Bool.not_true, Bool.not_false] at hc) <;> (try simp only [hc, go_sem, reduceIte, Nat.reduceEqDiff, Nat.reduceAdd, Int.reduceEq, Nat.reduceLeDiff, Nat.reduceLT, Nat.reduceBEq, Nat.reduceMul, Nat.reduceSub, Int.reduceToNat, Int.reduceLE, Int.reduceLT, Int.reduceAdd, Int.reduceSub, Int.reduceMul, Int.reduceNeg, Int.reduceDiv, Int.reduceMod, Int.reduceTDiv, Int.reduceTMod, Int.reducePow, hs, dd7, tk, tk0, cv, av, sf, cf, af, nf]))))
      change oB (inl _ _ _ _ _ _ _ (H12 rs F W o0 (.row 4 [.t (.agg [J 0, J 0, J 0, J 0])] 0) (.row 4 [.t (.agg [J 0, J 0, J 0, J 0])] 0) (.row 14 [ckv] 1) (.row 14 [ckv] 1) (.row 4 [.t (encN x)] 1) (.row 2 [.agg [.t (J 2), .fn (.func 44) [] [.ref 7 1 0 0]]] 1))) _
      refine again_in rs F W x o0 _ _ _ _ _ _ nn dd _ ?_
      intro X
      simp only [H12, oA, encN, List.cons_append, List.nil_append]
      cases hb : ckB rs F W x 1 with
      | true =>
        rw [hb] at hK
        simp only [if_true, ctlK_out] at hK
        simp only [ckB] at hb
        rw [hb]
        (simp only [il30l0_go, il30l0b, go_sem, reduceIte, Nat.reduceEqDiff, Nat.reduceAdd, Int.reduceEq, Nat.reduceLeDiff, Nat.reduceLT, Nat.reduceBEq, Nat.reduceMul, Nat.reduceSub, Int.reduceToNat, Int.reduceLE, Int.reduceLT, Int.reduceAdd, Int.reduceSub, Int.reduceMul, Int.reduceNeg, Int.reduceDiv, Int.reduceMod, Int.reduceTDiv, Int.reduceTMod, Int.reducePow, hs] <;> (repeat' ((first | with_reducible refine brG_intro (fun hc => ?_) (fun hc => ?_) | with_reducible refine brC_intro (fun hc => ?_) (fun hc => ?_) | ((with_reducible refine c_opsD ?_); have hc := @List.length_nil Nat) | ((with_reducible refine c_opsT ?_); have hc := @List.length_nil Nat) | ((with_reducible refine and_crit ?_ ?_); rfl; have hc := @List.length_nil Nat) | ((with_reducible refine crit_done ?_); rfl) | ((with_reducible refine mkC_go (fun _ => ?_)); have hc := @List.length_nil Nat) | ((with_reducible refine mkL_go (fun _ => ?_)); have hc := @List.length_nil Nat)) <;> (try simp only [Bool.not_eq_true', Bool.not_eq_false', Bool.not_true, Bool.not_false] at hc) <;> (try simp only [hc, go_sem, reduceIte, Nat.reduceEqDiff, Nat.reduceAdd, Int.reduceEq, Nat.reduceLeDiff, Nat.reduceLT, Nat.reduceBEq, Nat.reduceMul, Nat.reduceSub, Int.reduceToNat, Int.reduceLE, Int.reduceLT, Int.reduceAdd, Int.reduceSub, Int.reduceMul, Int.reduceNeg, Int.reduceDiv, Int.reduceMod, Int.reduceTDiv, Int.reduceTMod, Int.reducePow, hs]))))
        all_goals (refine hK _ _ _ (.inr ⟨by omega, rfl, ?_, _, rfl⟩); simp only [go_sem, reduceIte, Nat.reduceEqDiff, Nat.reduceAdd, Int.reduceEq, Nat.reduceLeDiff, Nat.reduceLT, Nat.reduceBEq, Nat.reduceMul, Nat.reduceSub, Int.reduceToNat, Int.reduceLE, Int.reduceLT, Int.reduceAdd, Int.reduceSub, Int.reduceMul, Int.reduceNeg, Int.reduceDiv, Int.reduceMod, Int.reduceTDiv, Int.reduceTMod, Int.reducePow, hs])
      | false =>
        rw [hb] at hK
        simp only [Bool.false_eq_true, if_false, ctlK_go] at hK
        simp only [ckB] at hb
        rw [hb]
        have c11 : 11 < X.length + 1 + 1 + 1 + 1 + 1 + 1 + 1 + 1 + 1 + 1 + 1 + 1 := by omega
        (simp only [il30l0_go, il30l0b, go_sem, reduceIte, Nat.reduceEqDiff, Nat.reduceAdd, Int.reduceEq, Nat.reduceLeDiff, Nat.reduceLT, Nat.reduceBEq, Nat.reduceMul, Nat.reduceSub, Int.reduceToNat, Int.reduceLE, Int.reduceLT, Int.reduceAdd, Int.reduceSub, Int.reduceMul, Int.reduceNeg, Int.reduceDiv, Int.reduceMod, Int.reduceTDiv, Int.reduceTMod, Int.reducePow, hs, hw, c11, frzR, frzF', frzW, frz_ck, ho, frz_ckv] <;> (repeat' ((first | with_reducible refine brG_intro (fun hc => ?_) (fun hc => ?_) | with_reducible refine brC_intro (fun hc => ?_) (fun hc => ?_) | ((with_reducible refine c_opsD ?_); have hc := @List.length_nil Nat) | ((with_reducible refine c_opsT ?_); have hc := @List.length_nil Nat) | ((with_reducible refine and_crit ?_ ?_); rfl; have hc := @List.length_nil Nat) | ((with_reducible refine crit_done ?_); rfl) | ((with_reducible refine mkC_go (fun _ => ?_)); have hc := @List.length_nil Nat) | ((with_reducible refine mkL_go (fun _ => ?_)); have hc := @List.length_nil Nat)) <;> (try simp only [Bool.not_eq_true', Bool.not_eq_false', Bool.not_true, Bool.not_false] at hc) <;> (try simp only [hc, go_sem, reduceIte, Nat.reduceEqDiff, Nat.reduceAdd, Int.reduceEq, Nat.reduceLeDiff, Nat.reduceLT, Nat.reduceBEq, Nat.reduceMul, Nat.reduceSub, Int.reduceToNat, Int.reduceLE, Int.reduceLT, Int.reduceAdd, Int.reduceSub, Int.reduceMul, Int.reduceNeg, Int.reduceDiv, Int.reduceMod, Int.reduceTDiv, Int.reduceTMod, Int.reducePow, hs, hw, c11, frzR, frzF', frzW, frz_ck, ho, frz_ckv]))))
        all_goals (refine hK _ _ ⟨?_, rfl⟩; simp only [go_sem, reduceIte, Nat.reduceEqDiff, Nat.reduceAdd, Int.reduceEq, Nat.reduceLeDiff, Nat.reduceLT, Nat.reduceBEq, Nat.reduceMul, Nat.reduceSub, Int.reduceToNat, Int.reduceLE, Int.reduceLT, Int.reduceAdd, Int.reduceSub, Int.reduceMul, Int.reduceNeg, Int.reduceDiv, Int.reduceMod, Int.reduceTDiv, Int.reduceTMod, Int.reducePow, hs, hw, frz_ckv])
    · have tk : takeR true 2 (ckC.drop (2 * 2)) = some (.agg [.t (J 3), .fn (.func 45) [] [.ref 7 1 0 0]]) := rfl
      have tk0 : takeR true 2 (ckC.drop 4) = some (.agg [.t (J 3), .fn (.func 45) [] [.ref 7 1 0 0]]) := rfl
      have cv : ckv.cells = ckC := rfl
      have sf : ∀ f a b, storable (AV.fn f a b) = true := fun _ _ _ => rfl
      have cf : ∀ f a b, (AV.fn f a b).cells = [.fn f a b] := fun _ _ _ => rfl
      have nf : ∀ f a b r, allT (AV.fn f a b :: r) = none := fun _ _ _ _ => rfl
      have af : ∀ f a b, (AV.fn f a b).isAgg = false := fun _ _ _ => rfl
      have av : ckv.isAgg = true := rfl
      simp only [H11, oA, encN] at hK ⊢
      (simp only [il30l0_go, il30l0b, go_sem, reduceIte, Nat.reduceEqDiff, Nat.reduceAdd, Int.reduceEq, Nat.reduceLeDiff, Nat.reduceLT, Nat.reduceBEq, Nat.reduceMul, Nat.reduceSub, Int.reduceToNat, Int.reduceLE, Int.reduceLT, Int.reduceAdd, Int.reduceSub, Int.reduceMul, Int.reduceNeg, Int.reduceDiv, Int.reduceMod, Int.reduceTDiv, Int.reduceTMod, Int.reducePow, hs, dd7, tk, tk0, cv, av, sf, cf, af, nf] <;> (repeat' ((first | with_reducible refine brG_intro (fun hc => ?_) (fun hc => ?_) | with_reducible refine brC_intro (fun hc => ?_) (fun hc => ?_) | ((with_reducible refine c_opsD ?_); have hc := @List.length_nil Nat) | ((with_reducible refine c_opsT ?_); have hc := @List.length_nil Nat) | ((with_reducible refine and_crit ?_ ?_); rfl; have hc := @List.length_nil Nat) | ((with_reducible refine crit_done ?_); rfl) | ((with_reducible refine mkC_go (fun _ => ?_)); have hc := @List.length_nil Nat) | ((with_reducible refine mkL_go (fun _ => ?_)); have hc := @List.length_nil Nat)) <;> (try simp only [Bool.not_eq_true', Bool.not_eq_false', Bool.not_true, Bool.not_false] at hc) <;> (try simp only [hc, go_sem, reduceIte, Nat.reduceEqDiff, Nat.reduceAdd, Int.reduceEq, Nat.reduceLeDiff, Nat.reduceLT, Nat.reduceBEq, Nat.reduceMul, Nat.reduceSub, Int.reduceToNat, Int.reduceLE, Int.reduceLT, Int.reduceAdd, Int.reduceSub, Int.reduceMul, Int.reduceNeg, Int.reduceDiv, Int.reduceMod, Int.reduceTDiv, Int.reduceTMod, Int.reducePow, hs, dd7, tk, tk0, cv, av, sf, cf, af, nf]))))
      change oB (inl _ _ _ _ _ _ _ (H12 rs F W o0 (.row 4 [.t (.agg [J 0, J 0, J 0, J 0])] 0) (.row 4 [.t (.agg [J 0, J 0, J 0, J 0])] 0) (.row 14 [ckv] 1) (.row 14 [ckv] 1) (.row 4 [.t (encN x)] 1) (.row 2 [.agg [.t (J 3), .fn (.func 45) [] [.ref 7 1 0 0]]] 1))) _
      refine unsent_in rs F W x o0 _ _ _ _ _ _ nn dd _ ?_
      intro X
      simp only [H12, oA, encN, List.cons_append, List.nil_append]
      cases hb : ckB rs F W x 2 with
      | true =>
        rw [hb] at hK
        simp only [if_true, ctlK_out] at hK
        simp only [ckB] at hb
        rw [hb]
        (simp only [il30l0_go, il30l0b, go_sem, reduceIte, Nat.reduceEqDiff, Nat.reduceAdd, Int.reduceEq, Nat.reduceLeDiff, Nat.reduceLT, Nat.reduceBEq, Nat.reduceMul, Nat.reduceSub, Int.reduceToNat, Int.reduceLE, Int.reduceLT, Int.reduceAdd, Int.reduceSub, Int.reduceMul, Int.reduceNeg, Int.reduceDiv, Int.reduceMod, Int.reduceTDiv, Int.reduceTMod, Int.reducePow, hs] <;> (repeat' ((first | with_reducible refine brG_intro (fun hc => ?_) (fun hc => ?_) | with_reducible refine brC_intro (fun hc => ?_) (fun hc => ?_) | ((with_reducible refine c_opsD ?_); have hc := @List.length_nil Nat) | ((with_reducible refine c_opsT ?_); have hc := @List.length_nil Nat) | ((with_reducible refine and_crit ?_ ?_); rfl; have hc := @List.length_nil Nat) | ((with_reducible refine crit_done ?_); rfl) | ((with_reducible refine mkC_go (fun _ => ?_)); have hc := @List.length_nil Nat) | ((with_reducible refine mkL_go (fun _ => ?_)); have hc := @List.length_nil Nat)) <;> (try simp only [Bool.not_eq_true', Bool.not_eq_false', Bool.not_true, Bool.not_false] at hc) <;> (try simp only [hc, go_sem, reduceIte, Nat.reduceEqDiff, Nat.reduceAdd, Int.reduceEq, Nat.reduceLeDiff, Nat.reduceLT, Nat.reduceBEq, Nat.reduceMul, Nat.reduceSub, Int.reduceToNat, Int.reduceLE, Int.reduceLT, Int.reduceAdd, Int.reduceSub, Int.reduceMul, Int.reduceNeg, Int.reduceDiv, Int.reduceMod, Int.reduceTDiv, Int.reduceTMod, Int.reducePow, hs]))))
        all_goals (refine hK _ _ _ (.inr ⟨by omega, rfl, ?_, _, rfl⟩); simp only [go_sem, reduceIte, Nat.reduceEqDiff, Nat.reduceAdd, Int.reduceEq, Nat.reduceLeDiff, Nat.reduceLT, Nat.reduceBEq, Nat.reduceMul, Nat.reduceSub, Int.reduceToNat, Int.reduceLE, Int.reduceLT, Int.reduceAdd, Int.reduceSub, Int.reduceMul, Int.reduceNeg, Int.reduceDiv, Int.reduceMod, Int.reduceTDiv, Int.reduceTMod, Int.reducePow, hs])
      | false =>
        rw [hb] at hK
        simp only [Bool.false_eq_true, if_false, ctlK_go] at hK
        simp only [ckB] at hb
        rw [hb]
        have c11 : 11 < X.length + 1 + 1 + 1 + 1 + 1 + 1 + 1 + 1 + 1 + 1 + 1 + 1 := by omega
        (simp only [il30l0_go, il30l0b, go_sem, reduceIte, Nat.reduceEqDiff, Nat.reduceAdd, Int.reduceEq, Nat.reduceLeDiff, Nat.reduceLT, Nat.reduceBEq, Nat.reduceMul, Nat.reduceSub, Int.reduceToNat, Int.reduceLE, Int.reduceLT, Int.reduceAdd, Int.reduceSub, Int.reduceMul, Int.reduceNeg, Int.reduceDiv, Int.reduceMod, Int.reduceTDiv, Int.reduceTMod, Int.reducePow, hs, hw, c11, frzR, frzF', frzW, frz_ck, ho, frz_ckv] <;> (repeat' ((first | with_reducible refine brG_intro (fun hc => ?_) (fun hc => ?_) | with_reducible refine brC_intro (fun hc => ?_) (fun hc => ?_) | ((with_reducible refine c_opsD ?_); have hc := @List.length_nil Nat) | ((with_reducible refine c_opsT ?_); have hc := @List.length_nil Nat) | ((with_reducible refine and_crit ?_ ?_); rfl; have hc := @List.length_nil Nat) | ((with_reducible refine crit_done ?_); rfl) | ((with_reducible refine mkC_go (fun _ => ?_)); have hc := @List.length_nil Nat) | ((with_reducible refine mkL_go (fun _ => ?_)); have hc := @List.length_nil Nat)) <;> (try simp only [Bool.not_eq_true', Bool.not_eq_false', Bool.not_true, Bool.not_false] at hc) <;> (try simp only [hc, go_sem, reduceIte, Nat.reduceEqDiff, Nat.reduceAdd, Int.reduceEq, Nat.reduceLeDiff, Nat.reduceLT, Nat.reduceBEq, Nat.reduceMul, Nat.reduceSub, Int.reduceToNat, Int.reduceLE, Int.reduceLT, Int.reduceAdd, Int.reduceSub, Int.reduceMul, Int.reduceNeg, Int.reduceDiv, Int.reduceMod, Int.reduceTDiv, Int.reduceTMod, Int.reducePow, hs, hw, c11, frzR, frzF', frzW, frz_ck, ho, frz_ckv]))))
        all_goals (refine hK _ _ ⟨?_, rfl⟩; simp only [go_sem, reduceIte, Nat.reduceEqDiff, Nat.reduceAdd, Int.reduceEq, Nat.reduceLeDiff, Nat.reduceLT, Nat.reduceBEq, Nat.reduceMul, Nat.reduceSub, Int.reduceToNat, Int.reduceLE, Int.reduceLT, Int.reduceAdd, Int.reduceSub, Int.reduceMul, Int.reduceNeg, Int.reduceDiv, Int.reduceMod, Int.reduceTDiv, Int.reduceTMod, Int.reducePow, hs, hw, frz_ckv])
    · have tk : takeR true 2 (ckC.drop (3 * 2)) = some (.agg [.t (J 4), .fn (.func 46) [] [.ref 7 1 0 0]]) := rfl
      have tk0 : takeR true 2 (ckC.drop 6) = some (.agg [.t (J 4), .fn (.func 46) [] [.ref 7 1 0 0]]) := rfl
      have cv : ckv.cells = ckC := rfl
      have sf : ∀ f a b, storable (AV.fn f a b) = true := fun _ _ _ => rfl
      have cf : ∀ f a b, (AV.fn f a b).cells = [.fn f a b] := fun _ _ _ => rfl
      have nf : ∀ f a b r, allT (AV.fn f a b :: r) = none := fun _ _ _ _ => rfl
      have af : ∀ f a b, (AV.fn f a b).isAgg = false := fun _ _ _ => rfl
      have av : ckv.isAgg = true := rfl
      simp only [H11, oA, encN] at hK ⊢
      (simp only [il30l0_go, il30l0b, go_sem, reduceIte, Nat.reduceEqDiff, Nat.reduceAdd, Int.reduceEq, Nat.reduceLeDiff, Nat.reduceLT, Nat.reduceBEq, Nat.reduceMul, Nat.reduceSub, Int.reduceToNat, Int.reduceLE, Int.reduceLT, Int.reduceAdd, Int.reduceSub, Int.reduceMul, Int.reduceNeg, Int.reduceDiv, Int.reduceMod, Int.reduceTDiv, Int.reduceTMod, Int.reducePow, hs, dd7, tk, tk0, cv, av, sf, cf, af, nf] <;> (repeat' ((first | with_reducible refine brG_intro (fun hc => ?_) (fun hc => ?_) | with_reducible refine brC_intro (fun hc => ?_) (fun hc => ?_) | ((with_reducible refine c_opsD ?_); have hc := @List.length_nil Nat) | ((with_reducible refine c_opsT ?_); have hc := @List.length_nil Nat) | ((with_reducible refine and_crit ?_ ?_); rfl; have hc := @List.length_nil Nat) | ((with_reducible refine crit_done ?_); rfl) | ((with_reducible refine mkC_go (fun _ => ?_)); have hc := @List.length_nil Nat) | ((with_reducible refine mkL_go (fun _ => ?_)); have hc := @List.length_nil Nat)) <;> (try simp only [Bool.not_eq_true', Bool.not_eq_false', Bool.not_true, Bool.not_false] at hc) <;> (try simp only [hc, go_sem, reduceIte, Nat.reduceEqDiff, Nat.reduceAdd, Int.reduceEq, Nat.reduceLeDiff, Nat.reduceLT, Nat.reduceBEq, Nat.reduceMul, Nat.reduceSub, Int.reduceToNat, Int.reduceLE, Int.reduceLT, Int.reduceAdd, Int.reduceSub, Int.reduceMul, Int.reduceNeg, Int.reduceDiv, Int.reduceMod, Int.reduceTDiv, Int.reduceTMod, Int.reducePow, hs, dd7, tk, tk0, cv, av, sf, cf, af, nf]))))
      change oB (inl _ _ _ _ _ _ _ (H12 rs F W o0 (.row 4 [.t (.agg [J 0, J 0, J 0, J 0])] 0) (.row 4 [.t (.agg [J 0, J 0, J 0, J 0])] 0) (.row 14 [ckv] 1) (.row 14 [ckv] 1) (.row 4 [.t (encN x)] 1) (.row 2 [.agg [.t (J 4), .fn (.func 46) [] [.ref 7 1 0 0]]] 1))) _
      refine twice_in rs F W x o0 _ _ _ _ _ _ nn dd _ ?_
      intro X
      simp only [H12, oA, encN, List.cons_append, List.nil_append]
      cases hb : ckB rs F W x 3 with
      | true =>
        rw [hb] at hK
        simp only [if_true, ctlK_out] at hK
        simp only [ckB] at hb
        rw [hb]
        (simp only [il30l0_go, il30l0b, go_sem, reduceIte, Nat.reduceEqDiff, Nat.reduceAdd, Int.reduceEq, Nat.reduceLeDiff, Nat.reduceLT, Nat.reduceBEq, Nat.reduceMul, Nat.reduceSub, Int.reduceToNat, Int.reduceLE, Int.reduceLT, Int.reduceAdd, Int.reduceSub, Int.reduceMul, Int.reduceNeg, Int.reduceDiv, Int.reduceMod, Int.reduceTDiv, Int.reduceTMod, Int.reducePow, hs] <;> (repeat' ((first | with_reducible refine brG_intro (fun hc => ?_) (fun hc => ?_) | with_reducible refine brC_intro (fun hc => ?_) (fun hc => ?_) | ((with_reducible refine c_opsD ?_); have hc := @List.length_nil Nat) | ((with_reducible refine c_opsT ?_); have hc := @List.length_nil Nat) | ((with_reducible refine and_crit ?_ ?_); rfl; have hc := @List.length_nil Nat) | ((with_reducible refine crit_done ?_); rfl) | ((with_reducible refine mkC_go (fun _ => ?_)); have hc := @List.length_nil Nat) | ((with_reducible refine mkL_go (fun _ => ?_)); have hc := @List.length_nil Nat)) <;> (try simp only [Bool.not_eq_true', Bool.not_eq_false', Bool.not_true, Bool.not_false] at hc) <;> (try simp only [hc, go_sem, reduceIte, Nat.reduceEqDiff, Nat.reduceAdd, Int.reduceEq, Nat.reduceLeDiff, Nat.reduceLT, Nat.reduceBEq, Nat.reduceMul, Nat.reduceSub, Int.reduceToNat, Int.reduceLE, Int.reduceLT, Int.reduceAdd, Int.reduceSub, Int.reduceMul, Int.reduceNeg, Int.reduceDiv, Int.reduceMod, Int.reduceTDiv, Int.reduceTMod, Int.reducePow, hs]))))
        all_goals (refine hK _ _ _ (.inr ⟨by omega, rfl, ?_, _, rfl⟩); simp only [go_sem, reduceIte, Nat.reduceEqDiff, Nat.reduceAdd, Int.reduceEq, Nat.reduceLeDiff, Nat.reduceLT, Nat.reduceBEq, Nat.reduceMul, Nat.reduceSub, Int.reduceToNat, Int.reduceLE, Int.reduceLT, Int.reduceAdd, Int.reduceSub, Int.reduceMul, Int.reduceNeg, Int.reduceDiv, Int.reduceMod, Int.reduceTDiv, Int.reduceTMod, Int.reducePow, hs])
      | false =>
        rw [hb] at hK
        simp only [Bool.false_eq_true, if_false, ctlK_go] at hK
        simp only [ckB] at hb
        rw [hb]
        have c11 : 11 < X.length + 1 + 1 + 1 + 1 + 1 + 1 + 1 + 1 + 1 + 1 + 1 + 1 := by omega
        (simp only [il30l0_go, il30l0b, go_sem, reduceIte, Nat.reduceEqDiff, Nat.reduceAdd, Int.reduceEq, Nat.reduceLeDiff, Nat.reduceLT, Nat.reduceBEq, Nat.reduceMul, Nat.reduceSub, Int.reduceToNat, Int.reduceLE, Int.reduceLT, Int.reduceAdd, Int.reduceSub, Int.reduceMul, Int.reduceNeg, Int.reduceDiv, Int.reduceMod, Int.reduceTDiv, Int.reduceTMod, Int.reducePow, hs, hw, c11, frzR, frzF', frzW, frz_ck, ho, frz_ckv] <;> (repeat' ((first | with_reducible refine brG_intro (fun hc => ?_) (fun hc => ?_) | with_reducible refine brC_intro (fun hc => ?_) (fun hc => ?_) | ((with_reducible refine c_opsD ?_); have hc := @List.length_nil Nat) | ((with_reducible refine c_opsT ?_); have hc := @List.length_nil Nat) | ((with_reducible refine and_crit ?_ ?_); rfl; have hc := @List.length_nil Nat) | ((with_reducible refine crit_done ?_); rfl) | ((with_reducible refine mkC_go (fun _ => ?_)); have hc := @List.length_nil Nat) | ((with_reducible refine mkL_go (fun _ => ?_)); have hc := @List.length_nil Nat)) <;> (try simp only [Bool.not_eq_true', Bool.not_eq_false', Bool.not_true, Bool.not_false] at hc) <;> (try simp only [hc, go_sem, reduceIte, Nat.reduceEqDiff, Nat.reduceAdd, Int.reduceEq, Nat.reduceLeDiff, Nat.reduceLT, Nat.reduceBEq, Nat.reduceMul, Nat.reduceSub, Int.reduceToNat, Int.reduceLE, Int.reduceLT, Int.reduceAdd, Int.reduceSub, Int.reduceMul, Int.reduceNeg, Int.reduceDiv, Int.reduceMod, Int.reduceTDiv, Int.reduceTMod, Int.reducePow, hs, hw, c11, frzR, frzF', frzW, frz_ck, ho, frz_ckv]))))
        all_goals (refine hK _ _ ⟨?_, rfl⟩; simp only [go_sem, reduceIte, Nat.reduceEqDiff, Nat.reduceAdd, Int.reduceEq, Nat.reduceLeDiff, Nat.reduceLT, Nat.reduceBEq, Nat.reduceMul, Nat.reduceSub, Int.reduceToNat, Int.reduceLE, Int.reduceLT, Int.reduceAdd, Int.reduceSub, Int.reduceMul, Int.reduceNeg, Int.reduceDiv, Int.reduceMod, Int.reduceTDiv, Int.reduceTMod, Int.reducePow, hs, hw, frz_ckv])
    · have tk : takeR true 2 (ckC.drop (4 * 2)) = some (.agg [.t (J 5), .fn (.func 47) [] [.ref 7 1 0 0]]) := rfl
      have tk0 : takeR true 2 (ckC.drop 8) = some (.agg [.t (J 5), .fn (.func 47) [] [.ref 7 1 0 0]]) := rfl
      have cv : ckv.cells = ckC := rfl
      have sf : ∀ f a b, storable (AV.fn f a b) = true := fun _ _ _ => rfl
      have cf : ∀ f a b, (AV.fn f a b).cells = [.fn f a b] := fun _ _ _ => rfl
      have nf : ∀ f a b r, allT (AV.fn f a b :: r) = none := fun _ _ _ _ => rfl
      have af : ∀ f a b, (AV.fn f a b).isAgg = false := fun _ _ _ => rfl
      have av : ckv.isAgg = true := rfl
      simp only [H11, oA, encN] at hK ⊢
      (simp only [il30l0_go, il30l0b, go_sem, reduceIte, Nat.reduceEqDiff, Nat.reduceAdd, Int.reduceEq, Nat.reduceLeDiff, Nat.reduceLT, Nat.reduceBEq, Nat.reduceMul, Nat.reduceSub, Int.reduceToNat, Int.reduceLE, Int.reduceLT, Int.reduceAdd, Int.reduceSub, Int.reduceMul, Int.reduceNeg, Int.reduceDiv, Int.reduceMod, Int.reduceTDiv, Int.reduceTMod, Int.reducePow, hs, dd7, tk, tk0, cv, av, sf, cf, af, nf] <;> (repeat' ((first | with_reducible refine brG_intro (fun hc => ?_) (fun hc => ?_) | with_reducible refine brC_intro (fun hc => ?_) (fun hc => ?_) | ((with_reducible refine c_opsD ?_); have hc := @List.length_nil Nat) | ((with_reducible refine c_opsT ?_); have hc := @List.length_nil Nat) | ((with_reducible refine and_crit ?_ ?_); rfl; have hc := @List.length_nil Nat) | ((with_reducible refine crit_done ?_); rfl) | ((with_reducible refine mkC_go (fun _ => ?_)); have hc := @List.length_nil Nat) | ((with_reducible refine mkL_go (fun _ => ?_)); have hc := @List.length_nil Nat)) <;> (try simp only [Bool.not_eq_true', Bool.not_eq_false', Bool.not_true, Bool.not_false] at hc) <;> (try simp only [hc, go_sem, reduceIte, Nat.reduceEqDiff, Nat.reduceAdd, Int.reduceEq, Nat.reduceLeDiff, Nat.reduceLT, Nat.reduceBEq, Nat.reduceMul, Nat.reduceSub, Int.reduceToNat, Int.reduceLE, Int.reduceLT, Int.reduceAdd, Int.reduceSub, Int.reduceMul, Int.reduceNeg, Int.reduceDiv, Int.reduceMod, Int.reduceTDiv, Int.reduceTMod, Int.reducePow, hs, dd7, tk, tk0, cv, av, sf, cf, af, nf]))))
      change oB (inl _ _ _ _ _ _ _ (H12 rs F W o0 (.row 4 [.t (.agg [J 0, J 0, J 0, J 0])] 0) (.row 4 [.t (.agg [J 0, J 0, J 0, J 0])] 0) (.row 14 [ckv] 1) (.row 14 [ckv] 1) (.row 4 [.t (encN x)] 1) (.row 2 [.agg [.t (J 5), .fn (.func 47) [] [.ref 7 1 0 0]]] 1))) _
      refine early_in rs F W x o0 _ _ _ _ _ _ nn dd _ hwr ?_
      intro X
      simp only [H12, oA, encN, List.cons_append, List.nil_append]
      cases hb : ckB rs F W x 4 with
      | true =>
        rw [hb] at hK
        simp only [if_true, ctlK_out] at hK
        simp only [ckB] at hb
        rw [hb]
        (simp only [il30l0_go, il30l0b, go_sem, reduceIte, Nat.reduceEqDiff, Nat.reduceAdd, Int.reduceEq, Nat.reduceLeDiff, Nat.reduceLT, Nat.reduceBEq, Nat.reduceMul, Nat.reduceSub, Int.reduceToNat, Int.reduceLE, Int.reduceLT, Int.reduceAdd, Int.reduceSub, Int.reduceMul, Int.reduceNeg, Int.reduceDiv, Int.reduceMod, Int.reduceTDiv, Int.reduceTMod, Int.reducePow, hs] <;> (repeat' ((first | with_reducible refine brG_intro (fun hc => ?_) (fun hc => ?_) | with_reducible refine brC_intro (fun hc => ?_) (fun hc => ?_) | ((with_reducible refine c_opsD ?_); have hc := @List.length_nil Nat) | ((with_reducible refine c_opsT ?_); have hc := @List.length_nil Nat) | ((with_reducible refine and_crit ?_ ?_); rfl; have hc := @List.length_nil Nat) | ((with_reducible refine crit_done ?_); rfl) | ((with_reducible refine mkC_go (fun _ => ?_)); have hc := @List.length_nil Nat) | ((with_reducible refine mkL_go (fun _ => ?_)); have hc := @List.length_nil Nat)) <;> (try simp only [Bool.not_eq_true', Bool.not_eq_false', Bool.not_true, Bool.not_false] at hc) <;> (try simp only [hc, go_sem, reduceIte, Nat.reduceEqDiff, Nat.reduceAdd, Int.reduceEq, Nat.reduceLeDiff, Nat.reduceLT, Nat.reduceBEq, Nat.reduceMul, Nat.reduceSub, Int.reduceToNat, Int.reduceLE, Int.reduceLT, Int.reduceAdd, Int.reduceSub, Int.reduceMul, Int.reduceNeg, Int.reduceDiv, Int.reduceMod, Int.reduceTDiv, Int.reduceTMod, Int.reducePow, hs]))))
        all_goals (refine hK _ _ _ (.inr ⟨by omega, rfl, ?_, _, rfl⟩); simp only [go_sem, reduceIte, Nat.reduceEqDiff, Nat.reduceAdd, Int.reduceEq, Nat.reduceLeDiff, Nat.reduceLT, Nat.reduceBEq, Nat.reduceMul, Nat.reduceSub, Int.reduceToNat, Int.reduceLE, Int.reduceLT, Int.reduceAdd, Int.reduceSub, Int.reduceMul, Int.reduceNeg, Int.reduceDiv, Int.reduceMod, Int.reduceTDiv, Int.reduceTMod, Int.reducePow, hs])
      | false =>
        rw [hb] at hK
        simp only [Bool.false_eq_true, if_false, ctlK_go] at hK
        simp only [ckB] at hb
        rw [hb]
        have c11 : 11 < X.length + 1 + 1 + 1 + 1 + 1 + 1 + 1 + 1 + 1 + 1 + 1 + 1 := by omega
        (simp only [il30l0_go, il30l0b, go_sem, reduceIte, Nat.reduceEqDiff, Nat.reduceAdd, Int.reduceEq, Nat.reduceLeDiff, Nat.reduceLT, Nat.reduceBEq, Nat.reduceMul, Nat.reduceSub, Int.reduceToNat, Int.reduceLE, Int.reduceLT, Int.reduceAdd, Int.reduceSub, Int.reduceMul, Int.reduceNeg, Int.reduceDiv, Int.reduceMod, Int.reduceTDiv, Int.reduceTMod, Int.reducePow, hs, hw, c11, frzR, frzF', frzW, frz_ck, ho, frz_ckv] <;> (repeat' ((first | with_reducible refine brG_intro (fun hc => ?_) (fun hc => ?_) | with_reducible refine brC_intro (fun hc => ?_) (fun hc => ?_) | ((with_reducible refine c_opsD ?_); have hc := @List.length_nil Nat) | ((with_reducible refine c_opsT ?_); have hc := @List.length_nil Nat) | ((with_reducible refine and_crit ?_ ?_); rfl; have hc := @List.length_nil Nat) | ((with_reducible refine crit_done ?_); rfl) | ((with_reducible refine mkC_go (fun _ => ?_)); have hc := @List.length_nil Nat) | ((with_reducible refine mkL_go (fun _ => ?_)); have hc := @List.length_nil Nat)) <;> (try simp only [Bool.not_eq_true', Bool.not_eq_false', Bool.not_true, Bool.not_false] at hc) <;> (try simp only [hc, go_sem, reduceIte, Nat.reduceEqDiff, Nat.reduceAdd, Int.reduceEq, Nat.reduceLeDiff, Nat.reduceLT, Nat.reduceBEq, Nat.reduceMul, Nat.reduceSub, Int.reduceToNat, Int.reduceLE, Int.reduceLT, Int.reduceAdd, Int.reduceSub, Int.reduceMul, Int.reduceNeg, Int.reduceDiv, Int.reduceMod, Int.reduceTDiv, Int.reduceTMod, Int.reducePow, hs, hw, c11, frzR, frzF', frzW, frz_ck, ho, frz_ckv]))))
        all_goals (refine hK _ _ ⟨?_, rfl⟩; simp only [go_sem, reduceIte, Nat.reduceEqDiff, Nat.reduceAdd, Int.reduceEq, Nat.reduceLeDiff, Nat.reduceLT, Nat.reduceBEq, Nat.reduceMul, Nat.reduceSub, Int.reduceToNat, Int.reduceLE, Int.reduceLT, Int.reduceAdd, Int.reduceSub, Int.reduceMul, Int.reduceNeg, Int.reduceDiv, Int.reduceMod, Int.reduceTDiv, Int.reduceTMod, Int.reducePow, hs, hw, frz_ckv])
    · have tk : takeR true 2 (ckC.drop (5 * 2)) = some (.agg [.t (J 6), .fn (.func 48) [] [.ref 7 1 0 0]]) := rfl
      have tk0 : takeR true 2 (ckC.drop 10) = some (.agg [.t (J 6), .fn (.func 48) [] [.ref 7 1 0 0]]) := rfl
      have cv : ckv.cells = ckC := rfl
      have sf : ∀ f a b, storable (AV.fn f a b) = true := fun _ _ _ => rfl
      have cf : ∀ f a b, (AV.fn f a b).cells = [.fn f a b] := fun _ _ _ => rfl
      have nf : ∀ f a b r, allT (AV.fn f a b :: r) = none := fun _ _ _ _ => rfl
      have af : ∀ f a b, (AV.fn f a b).isAgg = false := fun _ _ _ => rfl
      have av : ckv.isAgg = true := rfl
      simp only [H11, oA, encN] at hK ⊢
      (simp only [il30l0_go, il30l0b, go_sem, reduceIte, Nat.reduceEqDiff, Nat.reduceAdd, Int.reduceEq, Nat.reduceLeDiff, Nat.reduceLT, Nat.reduceBEq, Nat.reduceMul, Nat.reduceSub, Int.reduceToNat, Int.reduceLE, Int.reduceLT, Int.reduceAdd, Int.reduceSub, Int.reduceMul, Int.reduceNeg, Int.reduceDiv, Int.reduceMod, Int.reduceTDiv, Int.reduceTMod, Int.reducePow, hs, dd7, tk, tk0, cv, av, sf, cf, af, nf] <;> (repeat' ((first | with_reducible refine brG_intro (fun hc => ?_) (fun hc => ?_) | with_reducible refine brC_intro (fun hc => ?_) (fun hc => ?_) | ((with_reducible refine c_opsD ?_); have hc := @List.length_nil Nat) | ((with_reducible refine c_opsT ?_); have hc := @List.length_nil Nat) | ((with_reducible refine and_crit ?_ ?_); rfl; have hc := @List.length_nil Nat) | ((with_reducible refine crit_done ?_); rfl) | ((with_reducible refine mkC_go (fun _ => ?_)); have hc := @List.length_nil Nat) | ((with_reducible refine mkL_go (fun _ => ?_)); have hc := @List.length_nil Nat)) <;> (try simp only [Bool.not_eq_true', Bool.not_eq_false', Bool.not_true, Bool.not_false] at hc) <;> (try simp only [hc, go_sem, reduceIte, Nat.reduceEqDiff, Nat.reduceAdd, Int.reduceEq, Nat.reduceLeDiff, Nat.reduceLT, Nat.reduceBEq, Nat.reduceMul, Nat.reduceSub, Int.reduceToNat, Int.reduceLE, Int.reduceLT, Int.reduceAdd, Int.reduceSub, Int.reduceMul, Int.reduceNeg, Int.reduceDiv, Int.reduceMod, Int.reduceTDiv, Int.reduceTMod, Int.reducePow, hs, dd7, tk, tk0, cv, av, sf, cf, af, nf]))))
      change oB (inl _ _ _ _ _ _ _ (H12 rs F W o0 (.row 4 [.t (.agg [J 0, J 0, J 0, J 0])] 0) (.row 4 [.t (.agg [J 0, J 0, J 0, J 0])] 0) (.row 14 [ckv] 1) (.row 14 [ckv] 1) (.row 4 [.t (encN x)] 1) (.row 2 [.agg [.t (J 6), .fn (.func 48) [] [.ref 7 1 0 0]]] 1))) _
      refine late_in rs F W x o0 _ _ _ _ _ _ nn dd _ hwr ?_
      intro X
      simp only [H12, oA, encN, List.cons_append, List.nil_append]
      cases hb : ckB rs F W x 5 with
      | true =>
        rw [hb] at hK
        simp only [if_true, ctlK_out] at hK
        simp only [ckB] at hb
        rw [hb]
        (simp only [il30l0_go, il30l0b, go_sem, reduceIte, Nat.reduceEqDiff, Nat.reduceAdd, Int.reduceEq, Nat.reduceLeDiff, Nat.reduceLT, Nat.reduceBEq, Nat.reduceMul, Nat.reduceSub, Int.reduceToNat, Int.reduceLE, Int.reduceLT, Int.reduceAdd, Int.reduceSub, Int.reduceMul, Int.reduceNeg, Int.reduceDiv, Int.reduceMod, Int.reduceTDiv, Int.reduceTMod, Int.reducePow, hs] <;> (repeat' ((first | with_reducible refine brG_intro (fun hc => ?_) (fun hc => ?_) | with_reducible refine brC_intro (fun hc => ?_) (fun hc => ?_) | ((with_reducible refine c_opsD ?_); have hc := @List.length_nil Nat) | ((with_reducible refine c_opsT ?_); have hc := @List.length_nil Nat) | ((with_reducible refine and_crit ?_ ?_); rfl; have hc := @List.length_nil Nat) | ((with_reducible refine crit_done ?_); rfl) | ((with_reducible refine mkC_go (fun _ => ?_)); have hc := @List.length_nil Nat) | ((with_reducible refine mkL_go (fun _ => ?_)); have hc := @List.length_nil Nat)) <;> (try simp only [Bool.not_eq_true', Bool.not_eq_false', Bool.not_true, Bool.not_false] at hc) <;> (try simp only [hc, go_sem, reduceIte, Nat.reduceEqDiff, Nat.reduceAdd, Int.reduceEq, Nat.reduceLeDiff, Nat.reduceLT, Nat.reduceBEq, Nat.reduceMul, Nat.reduceSub, Int.reduceToNat, Int.reduceLE, Int.reduceLT, Int.reduceAdd, Int.reduceSub, Int.reduceMul, Int.reduceNeg, Int.reduceDiv, Int.reduceMod, Int.reduceTDiv, Int.reduceTMod, Int.reducePow, hs]))))
        all_goals (refine hK _ _ _ (.inr ⟨by omega, rfl, ?_, _, rfl⟩); simp only [go_sem, reduceIte, Nat.reduceEqDiff, Nat.reduceAdd, Int.reduceEq, Nat.reduceLeDiff, Nat.reduceLT, Nat.reduceBEq, Nat.reduceMul, Nat.reduceSub, Int.reduceToNat, Int.reduceLE, Int.reduceLT, Int.reduceAdd, Int.reduceSub, Int.reduceMul, Int.reduceNeg, Int.reduceDiv, Int.reduceMod, Int.reduceTDiv, Int.reduceTMod, Int.reducePow, hs])
      | false =>
        rw [hb] at hK
        simp only [Bool.false_eq_true, if_false, ctlK_go] at hK
        simp only [ckB] at hb
        rw [hb]
        have c11 : 11 < X.length + 1 + 1 + 1 + 1 + 1 + 1 + 1 + 1 + 1 + 1 + 1 + 1 := by omega
        (simp only [il30l0_go, il30l0b, go_sem, reduceIte, Nat.reduceEqDiff, Nat.reduceAdd, Int.reduceEq, Nat.reduceLeDiff, Nat.reduceLT, Nat.reduceBEq, Nat.reduceMul, Nat.reduceSub, Int.reduceToNat, Int.reduceLE, Int.reduceLT, Int.reduceAdd, Int.reduceSub, Int.reduceMul, Int.reduceNeg, Int.reduceDiv, Int.reduceMod, Int.reduceTDiv, Int.reduceTMod, Int.reducePow, hs, hw, c11, frzR, frzF', frzW, frz_ck, ho, frz_ckv] <;> (repeat' ((first | with_reducible refine brG_intro (fun hc => ?_) (fun hc => ?_) | with_reducible refine brC_intro (fun hc => ?_) (fun hc => ?_) | ((with_reducible refine c_opsD ?_); have hc := @List.length_nil Nat) | ((with_reducible refine c_opsT ?_); have hc := @List.length_nil Nat) | ((with_reducible refine and_crit ?_ ?_); rfl; have hc := @List.length_nil Nat) | ((with_reducible refine crit_done ?_); rfl) | ((with_reducible refine mkC_go (fun _ => ?_)); have hc := @List.length_nil Nat) | ((with_reducible refine mkL_go (fun _ => ?_)); have hc := @List.length_nil Nat)) <;> (try simp only [Bool.not_eq_true', Bool.not_eq_false', Bool.not_true, Bool.not_false] at hc) <;> (try simp only [hc, go_sem, reduceIte, Nat.reduceEqDiff, Nat.reduceAdd, Int.reduceEq, Nat.reduceLeDiff, Nat.reduceLT, Nat.reduceBEq, Nat.reduceMul, Nat.reduceSub, Int.reduceToNat, Int.reduceLE, Int.reduceLT, Int.reduceAdd, Int.reduceSub, Int.reduceMul, Int.reduceNeg, Int.reduceDiv, Int.reduceMod, Int.reduceTDiv, Int.reduceTMod, Int.reducePow, hs, hw, c11, frzR, frzF', frzW, frz_ck, ho, frz_ckv]))))
        all_goals (refine hK _ _ ⟨?_, rfl⟩; simp only [go_sem, reduceIte, Nat.reduceEqDiff, Nat.reduceAdd, Int.reduceEq, Nat.reduceLeDiff, Nat.reduceLT, Nat.reduceBEq, Nat.reduceMul, Nat.reduceSub, Int.reduceToNat, Int.reduceLE, Int.reduceLT, Int.reduceAdd, Int.reduceSub, Int.reduceMul, Int.reduceNeg, Int.reduceDiv, Int.reduceMod, Int.reduceTDiv, Int.reduceTMod, Int.reducePow, hs, hw, frz_ckv])
    · have tk : takeR true 2 (ckC.drop (6 * 2)) = some (.agg [.t (J 7), .fn (.func 49) [.ref 4 1 0 0] []]) := rfl
      have tk0 : takeR true 2 (ckC.drop 12) = some (.agg [.t (J 7), .fn (.func 49) [.ref 4 1 0 0] []]) := rfl
      have cv : ckv.cells = ckC := rfl
      have sf : ∀ f a b, storable (AV.fn f a b) = true := fun _ _ _ => rfl
      have cf : ∀ f a b, (AV.fn f a b).cells = [.fn f a b] := fun _ _ _ => rfl
      have nf : ∀ f a b r, allT (AV.fn f a b :: r) = none := fun _ _ _ _ => rfl
      have af : ∀ f a b, (AV.fn f a b).isAgg = false := fun _ _ _ => rfl
      have av : ckv.isAgg = true := rfl
      simp only [H11, oA, encN] at hK ⊢
      (simp only [il30l0_go, il30l0b, go_sem, reduceIte, Nat.reduceEqDiff, Nat.reduceAdd, Int.reduceEq, Nat.reduceLeDiff, Nat.reduceLT, Nat.reduceBEq, Nat.reduceMul, Nat.reduceSub, Int.reduceToNat, Int.reduceLE, Int.reduceLT, Int.reduceAdd, Int.reduceSub, Int.reduceMul, Int.reduceNeg, Int.reduceDiv, Int.reduceMod, Int.reduceTDiv, Int.reduceTMod, Int.reducePow, hs, dd7, tk, tk0, cv, av, sf, cf, af, nf] <;> (repeat' ((first | with_reducible refine brG_intro (fun hc => ?_) (fun hc => ?_) | with_reducible refine brC_intro (fun hc => ?_) (fun hc => ?_) | ((with_reducible refine c_opsD ?_); have hc := @List.length_nil Nat) | ((with_reducible refine c_opsT ?_); have hc := @List.length_nil Nat) | ((with_reducible refine and_crit ?_ ?_); rfl; have hc := @List.length_nil Nat) | ((with_reducible refine crit_done ?_); rfl) | ((with_reducible refine mkC_go (fun _ => ?_)); have hc := @List.length_nil Nat) | ((with_reducible refine mkL_go (fun _ => ?_)); have hc := @List.length_nil Nat)) <;> (try simp only [Bool.not_eq_true', Bool.not_eq_false', Bool.not_true, Bool.not_false] at hc) <;> (try simp only [hc, go_sem, reduceIte, Nat.reduceEqDiff, Nat.reduceAdd, Int.reduceEq, Nat.reduceLeDiff, Nat.reduceLT, Nat.reduceBEq, Nat.reduceMul, Nat.reduceSub, Int.reduceToNat, Int.reduceLE, Int.reduceLT, Int.reduceAdd, Int.reduceSub, Int.reduceMul, Int.reduceNeg, Int.reduceDiv, Int.reduceMod, Int.reduceTDiv, Int.reduceTMod, Int.reducePow, hs, dd7, tk, tk0, cv, av, sf, cf, af, nf]))))
      change oB (inl _ _ _ _ _ _ _ (H12 rs F W o0 (.row 4 [.t (.agg [J 0, J 0, J 0, J 0])] 0) (.row 4 [.t (.agg [J 0, J 0, J 0, J 0])] 0) (.row 14 [ckv] 1) (.row 14 [ckv] 1) (.row 4 [.t (encN x)] 1) (.row 2 [.agg [.t (J 7), .fn (.func 49) [.ref 4 1 0 0] []]] 1))) _
      refine over_in rs F W x o0 _ _ _ _ _ _ nn dd _ ?_
      intro X
      simp only [H12, oA, encN, List.cons_append, List.nil_append]
      cases hb : ckB rs F W x 6 with
      | true =>
        rw [hb] at hK
        simp only [if_true, ctlK_out] at hK
        simp only [ckB] at hb
        rw [hb]
        (simp only [il30l0_go, il30l0b, go_sem, reduceIte, Nat.reduceEqDiff, Nat.reduceAdd, Int.reduceEq, Nat.reduceLeDiff, Nat.reduceLT, Nat.reduceBEq, Nat.reduceMul, Nat.reduceSub, Int.reduceToNat, Int.reduceLE, Int.reduceLT, Int.reduceAdd, Int.reduceSub, Int.reduceMul, Int.reduceNeg, Int.reduceDiv, Int.reduceMod, Int.reduceTDiv, Int.reduceTMod, Int.reducePow, hs] <;> (repeat' ((first | with_reducible refine brG_intro (fun hc => ?_) (fun hc => ?_) | with_reducible refine brC_intro (fun hc => ?_) (fun hc => ?_) | ((with_reducible refine c_opsD ?_); have hc := @List.length_nil Nat) | ((with_reducible refine c_opsT ?_); have hc := @List.length_nil Nat) | ((with_reducible refine and_crit ?_ ?_); rfl; have hc := @List.length_nil Nat) | ((with_reducible refine crit_done ?_); rfl) | ((with_reducible refine mkC_go (fun _ => ?_)); have hc := @List.length_nil Nat) | ((with_reducible refine mkL_go (fun _ => ?_)); have hc := @List.length_nil Nat)) <;> (try simp only [Bool.not_eq_true', Bool.not_eq_false', Bool.not_true, Bool.not_false] at hc) <;> (try simp only [hc, go_sem, reduceIte, Nat.reduceEqDiff, Nat.reduceAdd, Int.reduceEq, Nat.reduceLeDiff, Nat.reduceLT, Nat.reduceBEq, Nat.reduceMul, Nat.reduceSub, Int.reduceToNat, Int.reduceLE, Int.reduceLT, Int.reduceAdd, Int.reduceSub, Int.reduceMul, Int.reduceNeg, Int.reduceDiv, Int.reduceMod, Int.reduceTDiv, Int.reduceTMod, Int.reducePow, hs]))))
        all_goals (refine hK _ _ _ (.inr ⟨by omega, rfl, ?_, _, rfl⟩); simp only [go_sem, reduceIte, Nat.reduceEqDiff, Nat.reduceAdd, Int.reduceEq, Nat.reduceLeDiff, Nat.reduceLT, Nat.reduceBEq, Nat.reduceMul, Nat.reduceSub, Int.reduceToNat, Int.reduceLE, Int.reduceLT, Int.reduceAdd, Int.reduceSub, Int.reduceMul, Int.reduceNeg, Int.reduceDiv, Int.reduceMod, Int.reduceTDiv, Int.reduceTMod, Int.reducePow, hs])
      | false =>
        rw [hb] at hK
        simp only [Bool.false_eq_true, if_false, ctlK_go] at hK
        simp only [ckB] at hb
        rw [hb]
        have c11 : 11 < X.length + 1 + 1 + 1 + 1 + 1 + 1 + 1 + 1 + 1 + 1 + 1 + 1 := by omega
        (simp only [il30l0_go, il30l0b, go_sem, reduceIte, Nat.reduceEqDiff, Nat.reduceAdd, Int.reduceEq, Nat.reduceLeDiff, Nat.reduceLT, Nat.reduceBEq, Nat.reduceMul, Nat.reduceSub, Int.reduceToNat, Int.reduceLE, Int.reduceLT, Int.reduceAdd, Int.reduceSub, Int.reduceMul, Int.reduceNeg, Int.reduceDiv, Int.reduceMod, Int.reduceTDiv, Int.reduceTMod, Int.reducePow, hs, hw, c11, frzR, frzF', frzW, frz_ck, ho, frz_ckv] <;> (repeat' ((first | with_reducible refine brG_intro (fun hc => ?_) (fun hc => ?_) | with_reducible refine brC_intro (fun hc => ?_) (fun hc => ?_) | ((with_reducible refine c_opsD ?_); have hc := @List.length_nil Nat) | ((with_reducible refine c_opsT ?_); have hc := @List.length_nil Nat) | ((with_reducible refine and_crit ?_ ?_); rfl; have hc := @List.length_nil Nat) | ((with_reducible refine crit_done ?_); rfl) | ((with_reducible refine mkC_go (fun _ => ?_)); have hc := @List.length_nil Nat) | ((with_reducible refine mkL_go (fun _ => ?_)); have hc := @List.length_nil Nat)) <;> (try simp only [Bool.not_eq_true', Bool.not_eq_false', Bool.not_true, Bool.not_false] at hc) <;> (try simp only [hc, go_sem, reduceIte, Nat.reduceEqDiff, Nat.reduceAdd, Int.reduceEq, Nat.reduceLeDiff, Nat.reduceLT, Nat.reduceBEq, Nat.reduceMul, Nat.reduceSub, Int.reduceToNat, Int.reduceLE, Int.reduceLT, Int.reduceAdd, Int.reduceSub, Int.reduceMul, Int.reduceNeg, Int.reduceDiv, Int.reduceMod, Int.reduceTDiv, Int.reduceTMod, Int.reducePow, hs, hw, c11, frzR, frzF', frzW, frz_ck, ho, frz_ckv]))))
        all_goals (refine hK _ _ ⟨?_, rfl⟩; simp only [go_sem, reduceIte, Nat.reduceEqDiff, Nat.reduceAdd, Int.reduceEq, Nat.reduceLeDiff, Nat.reduceLT, Nat.reduceBEq, Nat.reduceMul, Nat.reduceSub, Int.reduceToNat, Int.reduceLE, Int.reduceLT, Int.reduceAdd, Int.reduceSub, Int.reduceMul, Int.reduceNeg, Int.reduceDiv, Int.reduceMod, Int.reduceTDiv, Int.reduceTMod, Int.reducePow, hs, hw, frz_ckv])
  · intro _ e h Y R _ ⟨hs, hh⟩ hK
    subst hh
    have dd7 : decide ((7 : Int) < 7) = false := rfl
    (simp only [il30l0_go, il30l0b, go_sem, reduceIte, Nat.reduceEqDiff, Nat.reduceAdd, Int.reduceEq, Nat.reduceLeDiff, Nat.reduceLT, Nat.reduceBEq, Nat.reduceMul, Nat.reduceSub, Int.reduceToNat, Int.reduceLE, Int.reduceLT, Int.reduceAdd, Int.reduceSub, Int.reduceMul, Int.reduceNeg, Int.reduceDiv, Int.reduceMod, Int.reduceTDiv, Int.reduceTMod, Int.reducePow, hs, dd7] <;> (repeat' ((first | with_reducible refine brG_intro (fun hc => ?_) (fun hc => ?_) | with_reducible refine brC_intro (fun hc => ?_) (fun hc => ?_) | ((with_reducible refine c_opsD ?_); have hc := @List.length_nil Nat) | ((with_reducible refine c_opsT ?_); have hc := @List.length_nil Nat) | ((with_reducible refine and_crit ?_ ?_); rfl; have hc := @List.length_nil Nat) | ((with_reducible refine crit_done ?_); rfl) | ((with_reducible refine mkC_go (fun _ => ?_)); have hc := @List.length_nil Nat) | ((with_reducible refine mkL_go (fun _ => ?_)); have hc := @List.length_nil Nat)) <;> (try simp only [Bool.not_eq_true', Bool.not_eq_false', Bool.not_true, Bool.not_false] at hc) <;> (try simp only [hc, go_sem, reduceIte, Nat.reduceEqDiff, Nat.reduceAdd, Int.reduceEq, Nat.reduceLeDiff, Nat.reduceLT, Nat.reduceBEq, Nat.reduceMul, Nat.reduceSub, Int.reduceToNat, Int.reduceLE, Int.reduceLT, Int.reduceAdd, Int.reduceSub, Int.reduceMul, Int.reduceNeg, Int.reduceDiv, Int.reduceMod, Int.reduceTDiv, Int.reduceTMod, Int.reducePow, hs, dd7]))))
    all_goals (refine hK _ _ _ (.inl ⟨rfl, rfl, ?_, rfl⟩); simp only [go_sem, reduceIte, Nat.reduceEqDiff, Nat.reduceAdd, Int.reduceEq, Nat.reduceLeDiff, Nat.reduceLT, Nat.reduceBEq, Nat.reduceMul, Nat.reduceSub, Int.reduceToNat, Int.reduceLE, Int.reduceLT, Int.reduceAdd, Int.reduceSub, Int.reduceMul, Int.reduceNeg, Int.reduceDiv, Int.reduceMod, Int.reduceTDiv, Int.reduceTMod, Int.reducePow, hs])
  · intro y e h hx
    rw [ck_fold hk] at hx
    rcases hx with ⟨h1, h2, h3, h4⟩ | ⟨h1, h2, h3, X, h4⟩
    · subst h2 h4
      exact hR2 h1 e h3
    · subst h2 h4
      exact hR1 h1 e X h3

end Go.Proofs.YthcaepnclhgkmaaDoor
