/- Numbers as text: the statement's own decimal writes what the library writes. -/
import Derived.Test.YthcaepnclhgkmaaDoorIL
import Derived.Test.YthcaepnclhgkmaaDoorAuA
namespace Go.Proofs.YthcaepnclhgkmaaDoor
open Go Go.Abs
set_option linter.unusedSimpArgs false
set_option linter.unusedVariables false
set_option maxRecDepth 100000
set_option maxHeartbeats 4000000

abbrev St (l : List UInt8) : T := .sc (.string ⟨l.toArray⟩)
theorem rawD2 {e : FEnv} {h : Heap} : iStep Tryd.prog pol 37 e h (.raw (opOf Tryd.prog 37 2 13)) = cvB Tryd.prog 105 9 h (e 17) := raw_convB (x := .tmp 17) (by kernel_rfl)
theorem rawD4 {e : FEnv} {h : Heap} : iStep Tryd.prog pol 37 e h (.raw (opOf Tryd.prog 37 4 4)) = cvB Tryd.prog 105 9 h (e 25) := raw_convB (x := .tmp 25) (by kernel_rfl)
theorem rawD5 {e : FEnv} {h : Heap} : iStep Tryd.prog pol 37 e h (.raw (opOf Tryd.prog 37 5 8)) = cvB Tryd.prog 105 9 h (e 34) := raw_convB (x := .tmp 34) (by kernel_rfl)
theorem typ105 : typ Tryd.prog 105 = some (.slice 5) := by kernel_rfl
theorem typ9 : typ Tryd.prog 9 = some .string := by kernel_rfl
theorem typ5 : typ Tryd.prog 5 = some (.int .u8) := by kernel_rfl
theorem text1 {n : Int} (h0 : 0 ≤ n) (h1 : n < 256) : textOf Tryd.prog 105 9 [.sc (.int .u8 n)] = some (.t (St [UInt8.ofNat n.toNat])) := by
  unfold textOf
  have hb : Abs.byteOf (.sc (.int .u8 n)) = some (UInt8.ofNat n.toNat) := by
    unfold Abs.byteOf
    simp only [if_pos (⟨h0, h1⟩ : 0 ≤ n ∧ n < 256)]
  simp only [typ105, typ9, typ5, mapO, hb]
theorem bytes_app (a b : List UInt8) : (⟨a.toArray⟩ : ByteArray) ++ ⟨b.toArray⟩ = ⟨(a ++ b).toArray⟩ := by
  show ByteArray.append _ _ = _
  simp [ByteArray.append, ByteArray.copySlice]

theorem sadd {bl : Bool} {a b : List UInt8} (h : a.length + b.length ≤ 1000000) : iBin .add bl (.t (St a)) (.t (St b)) = some (.t (St (a ++ b))) := by
  rw [bin_sadd (by show a.toArray.size + b.toArray.size ≤ _; simpa using h), bytes_app]
theorem dl_len : ∀ (k u : Nat), u < 10 ^ (k + 1) → (Lib.decDigits u).length ≤ k + 1 := by
  intro k
  induction k with
  | zero => intro u h; rw [Lib.decDigits, dif_pos (by simpa using h)]; simp
  | succ k ih =>
    intro u h
    rw [Lib.decDigits]
    split
    · simp
    · rw [List.length_append]
      have := ih (u / 10) (by rw [Nat.pow_succ] at h; omega)
      simp only [List.length_cons, List.length_nil]
      omega
theorem dl20 {u : Nat} (h : u ≤ 9223372036854775808) : (Lib.decDigits u).length ≤ 20 := dl_len 19 u (by omega)
theorem strip_ans (l : List UInt8) (n : Int) : ans Tryd.prog pol 42 [St l, J n] = some (St (if n = 0 then [] else l)) := by
  refine ans_go 1 1 il42_eq (Nat.le_of_ble_eq_true rfl) ?_
  by_cases h : n = 0
  · subst h
    (simp only [il42c, go_sem, reduceIte, Nat.reduceEqDiff, Nat.reduceAdd, Int.reduceEq, Nat.reduceLeDiff, Nat.reduceLT, Nat.reduceBEq, Nat.reduceMul, Nat.reduceSub, Int.reduceToNat, Int.reduceLE, Int.reduceLT, Int.reduceAdd, Int.reduceSub, Int.reduceMul, Int.reduceNeg, Int.reduceDiv, Int.reduceMod, Int.reduceTDiv, Int.reduceTMod, Int.reducePow] <;> (repeat' ((first | with_reducible refine brG_intro (fun hc => ?_) (fun hc => ?_) | with_reducible refine brC_intro (fun hc => ?_) (fun hc => ?_) | ((with_reducible refine c_opsD ?_); have hc := @List.length_nil Nat) | ((with_reducible refine c_opsT ?_); have hc := @List.length_nil Nat) | ((with_reducible refine and_crit ?_ ?_); rfl; have hc := @List.length_nil Nat) | ((with_reducible refine crit_done ?_); rfl) | ((with_reducible refine mkC_go (fun _ => ?_)); have hc := @List.length_nil Nat) | ((with_reducible refine mkL_go (fun _ => ?_)); have hc := @List.length_nil Nat)) <;> (try simp only [Bool.not_eq_true', Bool.not_eq_false', Bool.not_true, Bool.not_false] at hc) <;> (try simp only [hc, go_sem, reduceIte, Nat.reduceEqDiff, Nat.reduceAdd, Int.reduceEq, Nat.reduceLeDiff, Nat.reduceLT, Nat.reduceBEq, Nat.reduceMul, Nat.reduceSub, Int.reduceToNat, Int.reduceLE, Int.reduceLT, Int.reduceAdd, Int.reduceSub, Int.reduceMul, Int.reduceNeg, Int.reduceDiv, Int.reduceMod, Int.reduceTDiv, Int.reduceTMod, Int.reducePow]))))
  · have d : decide (n = 0) = false := decide_eq_false h
    rw [if_neg h]
    (simp only [il42c, go_sem, reduceIte, Nat.reduceEqDiff, Nat.reduceAdd, Int.reduceEq, Nat.reduceLeDiff, Nat.reduceLT, Nat.reduceBEq, Nat.reduceMul, Nat.reduceSub, Int.reduceToNat, Int.reduceLE, Int.reduceLT, Int.reduceAdd, Int.reduceSub, Int.reduceMul, Int.reduceNeg, Int.reduceDiv, Int.reduceMod, Int.reduceTDiv, Int.reduceTMod, Int.reducePow, d] <;> (repeat' ((first | with_reducible refine brG_intro (fun hc => ?_) (fun hc => ?_) | with_reducible refine brC_intro (fun hc => ?_) (fun hc => ?_) | ((with_reducible refine c_opsD ?_); have hc := @List.length_nil Nat) | ((with_reducible refine c_opsT ?_); have hc := @List.length_nil Nat) | ((with_reducible refine and_crit ?_ ?_); rfl; have hc := @List.length_nil Nat) | ((with_reducible refine crit_done ?_); rfl) | ((with_reducible refine mkC_go (fun _ => ?_)); have hc := @List.length_nil Nat) | ((with_reducible refine mkL_go (fun _ => ?_)); have hc := @List.length_nil Nat)) <;> (try simp only [Bool.not_eq_true', Bool.not_eq_false', Bool.not_true, Bool.not_false] at hc) <;> (try simp only [hc, go_sem, reduceIte, Nat.reduceEqDiff, Nat.reduceAdd, Int.reduceEq, Nat.reduceLeDiff, Nat.reduceLT, Nat.reduceBEq, Nat.reduceMul, Nat.reduceSub, Int.reduceToNat, Int.reduceLE, Int.reduceLT, Int.reduceAdd, Int.reduceSub, Int.reduceMul, Int.reduceNeg, Int.reduceDiv, Int.reduceMod, Int.reduceTDiv, Int.reduceTMod, Int.reducePow, d]))))

theorem dec_pos : ∀ (u : Nat), u ≤ 9223372036854775807 → ans Tryd.prog pol 37 [J (u : Nat)] = some (St (Lib.decDigits u)) := by
  intro u
  induction u using Nat.strongRecOn with
  | _ u ih =>
    intro hu
    have d1 : decide ((u : Int) < 0) = false := decide_eq_false (by omega)
    refine ans_go 1 1 il37_eq (Nat.le_of_ble_eq_true rfl) ?_
    by_cases h : u < 10
    · have d2 : decide ((u : Int) < 10) = true := decide_eq_true (by omega)
      have w1 : IntKind.i64.wrap (48 + (u : Int)) = 48 + (u : Int) := wrap_i64 (by omega) (by omega)
      have w2 : IntKind.u8.wrap (48 + (u : Int)) = 48 + (u : Int) := by rw [IntKind.wrap_u8]; omega
      have t1 := text1 (n := 48 + (u : Int)) (by omega) (by omega)
      have e1 : (48 + (u : Int)).toNat = 48 + u := by omega
      rw [e1] at t1
      rw [Lib.decDigits, dif_pos h]
      (simp only [il37c, go_sem, reduceIte, Nat.reduceEqDiff, Nat.reduceAdd, Int.reduceEq, Nat.reduceLeDiff, Nat.reduceLT, Nat.reduceBEq, Nat.reduceMul, Nat.reduceSub, Int.reduceToNat, Int.reduceLE, Int.reduceLT, Int.reduceAdd, Int.reduceSub, Int.reduceMul, Int.reduceNeg, Int.reduceDiv, Int.reduceMod, Int.reduceTDiv, Int.reduceTMod, Int.reducePow, d1, d2, w1, w2, rawD4, cvB_sl, t1] <;> (repeat' ((first | with_reducible refine brG_intro (fun hc => ?_) (fun hc => ?_) | with_reducible refine brC_intro (fun hc => ?_) (fun hc => ?_) | ((with_reducible refine c_opsD ?_); have hc := @List.length_nil Nat) | ((with_reducible refine c_opsT ?_); have hc := @List.length_nil Nat) | ((with_reducible refine and_crit ?_ ?_); rfl; have hc := @List.length_nil Nat) | ((with_reducible refine crit_done ?_); rfl) | ((with_reducible refine mkC_go (fun _ => ?_)); have hc := @List.length_nil Nat) | ((with_reducible refine mkL_go (fun _ => ?_)); have hc := @List.length_nil Nat)) <;> (try simp only [Bool.not_eq_true', Bool.not_eq_false', Bool.not_true, Bool.not_false] at hc) <;> (try simp only [hc, go_sem, reduceIte, Nat.reduceEqDiff, Nat.reduceAdd, Int.reduceEq, Nat.reduceLeDiff, Nat.reduceLT, Nat.reduceBEq, Nat.reduceMul, Nat.reduceSub, Int.reduceToNat, Int.reduceLE, Int.reduceLT, Int.reduceAdd, Int.reduceSub, Int.reduceMul, Int.reduceNeg, Int.reduceDiv, Int.reduceMod, Int.reduceTDiv, Int.reduceTMod, Int.reducePow, d1, d2, w1, w2, rawD4, cvB_sl, t1]))))
    · have d2 : decide ((u : Int) < 10) = false := decide_eq_false (by omega)
      have q1 : (u : Int).tdiv 10 = ((u / 10 : Nat) : Int) := by rw [Int.tdiv_eq_ediv_of_nonneg (by omega)]; rfl
      have q2 : (u : Int).tmod 10 = ((u % 10 : Nat) : Int) := by rw [Int.tmod_eq_emod_of_nonneg (by omega)]; rfl
      have c1 := ih (u / 10) (by omega) (by omega)
      have w1 : IntKind.i64.wrap (48 + ((u % 10 : Nat) : Int)) = 48 + ((u % 10 : Nat) : Int) := wrap_i64 (by omega) (by omega)
      have w2 : IntKind.u8.wrap (48 + ((u % 10 : Nat) : Int)) = 48 + ((u % 10 : Nat) : Int) := by rw [IntKind.wrap_u8]; omega
      have w3 : IntKind.i64.wrap (((u / 10 : Nat)) : Int) = ((u / 10 : Nat) : Int) := wrap_i64 (by omega) (by omega)
      have w4 : IntKind.i64.wrap (((u % 10 : Nat)) : Int) = ((u % 10 : Nat) : Int) := wrap_i64 (by omega) (by omega)
      have t1 := text1 (n := 48 + ((u % 10 : Nat) : Int)) (by omega) (by omega)
      have e1 : (48 + ((u % 10 : Nat) : Int)).toNat = 48 + u % 10 := by omega
      rw [e1] at t1
      rw [Lib.decDigits, dif_neg h]
      have hl := dl20 (u := u / 10) (by omega)
      have s1 := sadd (bl := false) (a := Lib.decDigits (u / 10)) (b := [UInt8.ofNat (48 + u % 10)]) (by simp; omega)
      generalize hq : u / 10 = q at *
      generalize hr : u % 10 = r at *
      (simp only [il37c, go_sem, reduceIte, Nat.reduceEqDiff, Nat.reduceAdd, Int.reduceEq, Nat.reduceLeDiff, Nat.reduceLT, Nat.reduceBEq, Nat.reduceMul, Nat.reduceSub, Int.reduceToNat, Int.reduceLE, Int.reduceLT, Int.reduceAdd, Int.reduceSub, Int.reduceMul, Int.reduceNeg, Int.reduceDiv, Int.reduceMod, Int.reduceTDiv, Int.reduceTMod, Int.reducePow, d1, d2, q1, q2, w1, w2, w3, w4, c1, rawD5, cvB_sl, t1, s1] <;> (repeat' ((first | with_reducible refine brG_intro (fun hc => ?_) (fun hc => ?_) | with_reducible refine brC_intro (fun hc => ?_) (fun hc => ?_) | ((with_reducible refine c_opsD ?_); have hc := @List.length_nil Nat) | ((with_reducible refine c_opsT ?_); have hc := @List.length_nil Nat) | ((with_reducible refine and_crit ?_ ?_); rfl; have hc := @List.length_nil Nat) | ((with_reducible refine crit_done ?_); rfl) | ((with_reducible refine mkC_go (fun _ => ?_)); have hc := @List.length_nil Nat) | ((with_reducible refine mkL_go (fun _ => ?_)); have hc := @List.length_nil Nat)) <;> (try simp only [Bool.not_eq_true', Bool.not_eq_false', Bool.not_true, Bool.not_false] at hc) <;> (try simp only [hc, go_sem, reduceIte, Nat.reduceEqDiff, Nat.reduceAdd, Int.reduceEq, Nat.reduceLeDiff, Nat.reduceLT, Nat.reduceBEq, Nat.reduceMul, Nat.reduceSub, Int.reduceToNat, Int.reduceLE, Int.reduceLT, Int.reduceAdd, Int.reduceSub, Int.reduceMul, Int.reduceNeg, Int.reduceDiv, Int.reduceMod, Int.reduceTDiv, Int.reduceTMod, Int.reducePow, d1, d2, q1, q2, w1, w2, w3, w4, c1, rawD5, cvB_sl, t1, s1]))))

theorem dec_neg (u : Nat) (h1 : 1 ≤ u) (h2 : u ≤ 9223372036854775808) : ans Tryd.prog pol 37 [J (-(u : Int))] = some (St (45 :: Lib.decDigits u)) := by
  have d1 : decide (-(u : Int) < 0) = true := decide_eq_true (by omega)
  have q1 : (-(u : Int)).tdiv 10 = -((u / 10 : Nat) : Int) := by rw [Int.neg_tdiv, Int.tdiv_eq_ediv_of_nonneg (by omega)]; rfl
  have q2 : (-(u : Int)).tmod 10 = -((u % 10 : Nat) : Int) := by rw [Int.neg_tmod, Int.tmod_eq_emod_of_nonneg (by omega)]; rfl
  have c1 := dec_pos (u / 10) (by omega)
  have c2 := strip_ans (Lib.decDigits (u / 10)) (-((u / 10 : Nat) : Int))
  have w1 : IntKind.i64.wrap (48 - -((u % 10 : Nat) : Int)) = 48 + ((u % 10 : Nat) : Int) := by rw [wrap_i64 (by omega) (by omega)]; omega
  have w2 : IntKind.u8.wrap (48 + ((u % 10 : Nat) : Int)) = 48 + ((u % 10 : Nat) : Int) := by rw [IntKind.wrap_u8]; omega
  have w3 : IntKind.i64.wrap (-((u / 10 : Nat) : Int)) = -((u / 10 : Nat) : Int) := wrap_i64 (by omega) (by omega)
  have w4 : IntKind.i64.wrap (-((u % 10 : Nat) : Int)) = -((u % 10 : Nat) : Int) := wrap_i64 (by omega) (by omega)
  have w5 : IntKind.i64.wrap (0 - -((u / 10 : Nat) : Int)) = ((u / 10 : Nat) : Int) := by rw [Int.sub_neg, Int.zero_add]; exact wrap_i64 (by omega) (by omega)
  have t1 := text1 (n := 48 + ((u % 10 : Nat) : Int)) (by omega) (by omega)
  have e1 : (48 + ((u % 10 : Nat) : Int)).toNat = 48 + u % 10 := by omega
  rw [e1] at t1
  have hres : 45 :: Lib.decDigits u = 45 :: ((if -((u / 10 : Nat) : Int) = 0 then [] else Lib.decDigits (u / 10)) ++ [UInt8.ofNat (48 + u % 10)]) := by
    by_cases h : u < 10
    · rw [if_pos (by omega), Lib.decDigits, dif_pos h, show u % 10 = u by omega]; rfl
    · rw [if_neg (by omega), Lib.decDigits, dif_neg h]
  rw [hres]
  refine ans_go 1 1 il37_eq (Nat.le_of_ble_eq_true rfl) ?_
  have hl : (if -((u / 10 : Nat) : Int) = 0 then [] else Lib.decDigits (u / 10)).length ≤ 20 := by split; simp; exact dl20 (by omega)
  generalize (if -((u / 10 : Nat) : Int) = 0 then [] else Lib.decDigits (u / 10)) = K at *
  generalize hD : Lib.decDigits (u / 10) = DD at *
  generalize hq : u / 10 = q at *
  generalize hr : u % 10 = r at *
  have s1 : iBin .add false (.t (.sc (.string ⟨#[45]⟩))) (.t (St K)) = some (.t (St (45 :: K))) := sadd (a := [45]) (by simp; omega)
  have s2 : iBin .add false (.t (St (45 :: K))) (.t (St [UInt8.ofNat (48 + r)])) = some (.t (St (45 :: (K ++ [UInt8.ofNat (48 + r)])))) := sadd (a := 45 :: K) (by simp; omega)
  (simp only [il37c, go_sem, reduceIte, Nat.reduceEqDiff, Nat.reduceAdd, Int.reduceEq, Nat.reduceLeDiff, Nat.reduceLT, Nat.reduceBEq, Nat.reduceMul, Nat.reduceSub, Int.reduceToNat, Int.reduceLE, Int.reduceLT, Int.reduceAdd, Int.reduceSub, Int.reduceMul, Int.reduceNeg, Int.reduceDiv, Int.reduceMod, Int.reduceTDiv, Int.reduceTMod, Int.reducePow, d1, q1, q2, w1, w2, w3, w4, w5, c1, c2, rawD2, cvB_sl, t1, s1, s2] <;> (repeat' ((first | with_reducible refine brG_intro (fun hc => ?_) (fun hc => ?_) | with_reducible refine brC_intro (fun hc => ?_) (fun hc => ?_) | ((with_reducible refine c_opsD ?_); have hc := @List.length_nil Nat) | ((with_reducible refine c_opsT ?_); have hc := @List.length_nil Nat) | ((with_reducible refine and_crit ?_ ?_); rfl; have hc := @List.length_nil Nat) | ((with_reducible refine crit_done ?_); rfl) | ((with_reducible refine mkC_go (fun _ => ?_)); have hc := @List.length_nil Nat) | ((with_reducible refine mkL_go (fun _ => ?_)); have hc := @List.length_nil Nat)) <;> (try simp only [Bool.not_eq_true', Bool.not_eq_false', Bool.not_true, Bool.not_false] at hc) <;> (try simp only [hc, go_sem, reduceIte, Nat.reduceEqDiff, Nat.reduceAdd, Int.reduceEq, Nat.reduceLeDiff, Nat.reduceLT, Nat.reduceBEq, Nat.reduceMul, Nat.reduceSub, Int.reduceToNat, Int.reduceLE, Int.reduceLT, Int.reduceAdd, Int.reduceSub, Int.reduceMul, Int.reduceNeg, Int.reduceDiv, Int.reduceMod, Int.reduceTDiv, Int.reduceTMod, Int.reducePow, d1, q1, q2, w1, w2, w3, w4, w5, c1, c2, rawD2, cvB_sl, t1, s1, s2]))))

theorem dec_ans (n : Int) (h0 : -9223372036854775808 ≤ n) (h1 : n ≤ 9223372036854775807) : ans Tryd.prog pol 37 [J n] = some (itoaT n) := by
  rw [itoaT, itoaC_eq h0 h1]
  unfold Lib.itoa
  by_cases h : n < 0
  · rw [if_pos h]
    have := dec_neg n.natAbs (by omega) (by omega)
    rwa [show -((n.natAbs : Nat) : Int) = n by omega] at this
  · rw [if_neg h]
    have := dec_pos n.toNat (by omega)
    rwa [show ((n.toNat : Nat) : Int) = n by omega] at this
theorem itoa_ans (n : Int) (h0 : -9223372036854775808 ≤ n) (h1 : n ≤ 9223372036854775807) : ans Tryd.prog pol 36 [J n] = some (itoaT n) := by
  refine ans_prim ?_
  show orcItoa 36 36 [J n] = _
  unfold orcItoa
  rw [if_pos (by rfl)]
  simp only [if_pos (⟨h0, h1⟩ : -9223372036854775808 ≤ n ∧ n ≤ 9223372036854775807)]
end Go.Proofs.YthcaepnclhgkmaaDoor
