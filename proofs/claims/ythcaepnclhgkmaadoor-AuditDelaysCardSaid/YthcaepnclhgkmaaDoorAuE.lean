/- The auditor: its maps, its checks, what it learns. -/
import Derived.Test.YthcaepnclhgkmaaDoorAuD
import Derived.Test.YthcaepnclhgkmaaDoorAbsFill
namespace Go.Proofs.YthcaepnclhgkmaaDoor
open Go Go.Abs
set_option linter.unusedSimpArgs false
set_option linter.unusedVariables false
set_option maxRecDepth 100000
set_option maxHeartbeats 4000000

abbrev kI (n : Int) : Value := .int .i64 n
abbrev kF (p : Int × Int) : Value := .agg #[.int .i64 p.1, .int .i64 p.2]
def encF (f : Fate) : T := .agg [B f.sent, B f.got, J f.ix, J f.at_]
theorem encF_cells (f : Fate) : (encF f).cells = [B f.sent, B f.got, J f.ix, J f.at_] := rfl
abbrev fR (r : Ru) : AV := .t (encR r)
abbrev fF (f : Fate) : AV := .t (encF f)
abbrev fI (n : Int) : AV := .t (J n)
theorem key3 : KeyOk Tryd.prog 3 kI := key_i64 (by kernel_rfl)
theorem key90 : KeyOk Tryd.prog 90 kF where
  ok a := by cases a; rfl
  key a := by cases a; kernel_rfl
  eq a b := by
    obtain ⟨a1, a2⟩ := a
    obtain ⟨b1, b2⟩ := b
    exact (show eqIn Tryd.prog 20 90 (ofVal (kF (a1, a2))) (ofVal (kF (b1, b2))) = some ((a1 == b1) && ((a2 == b2) && true)) by kernel_rfl).trans (by congr 1; rw [Bool.eq_iff_iff]; simp)
  bits a := by
    obtain ⟨a1, a2⟩ := a
    simp [Instr.sameBits]
theorem typ74 : typ Tryd.prog 74 = some (.map 3 55) := by kernel_rfl
theorem typ75 : typ Tryd.prog 75 = some (.map 90 103) := by kernel_rfl
theorem typ76 : typ Tryd.prog 76 = some (.map 3 3) := by kernel_rfl
theorem zero55 : zeroOf Tryd.prog 55 = some (encR ⟨0, 0, 0, false⟩) := by kernel_rfl
theorem zero103 : zeroOf Tryd.prog 103 = some (encF ⟨false, false, 0, 0⟩) := by kernel_rfl
theorem zero3 : zeroOf Tryd.prog 3 = some (J 0) := by kernel_rfl

def ruM (rs : List Ru) : List (Int × Ru) := rs.map fun r => (r.s, r)
theorem mget_ru (s : Int) : ∀ rs : List Ru, mget (ruM rs) s = ruleOf rs s := by
  intro rs
  induction rs with
  | nil => rfl
  | cons r rs ih => simp only [ruM, List.map_cons, mget, ruleOf] at ih ⊢; rw [ih]
def mR (rs : List Ru) : AObj := .map (Go.Abs.encM kI fR (ruM rs))
def mF (F : Fates) : AObj := .map (Go.Abs.encM kF fF F)
def mW (W : List (Int × Int)) : AObj := .map (Go.Abs.encM kI fI W)
def oA : AObj := .row 3 [.agg [.mp 1, .mp 2, .mp 3]] 0

theorem frzR (rs : List Ru) (h : Heap) (p : Nat → Bool) : frzObj h p (mR rs) = some (mR rs) := frz_encM (fun v => ⟨_, rfl⟩)
theorem frzF' (F : Fates) (h : Heap) (p : Nat → Bool) : frzObj h p (mF F) = some (mF F) := frz_encM (fun v => ⟨_, rfl⟩)
theorem frzW (W : List (Int × Int)) (h : Heap) (p : Nat → Bool) : frzObj h p (mW W) = some (mW W) := frz_encM (fun v => ⟨_, rfl⟩)

theorem lkR (rs : List Ru) (s : Int) (o : AObj) (hs : Heap) : lkV Tryd.prog 74 false (o :: mR rs :: hs) (.mp 1) (.t (J s)) = some (.t (encR (ruleD rs s))) := by
  have := lk_map (h := o :: mR rs :: hs) (o := 1) key3 typ74 zero55 s (f := fR) (l := ruM rs) rfl
  rw [show ofVal (kI s) = J s from rfl, mget_ru] at this
  rw [this, ruleD]
  cases ruleOf rs s <;> rfl
theorem lkRok (rs : List Ru) (s : Int) (o : AObj) (hs : Heap) : lkV Tryd.prog 74 true (o :: mR rs :: hs) (.mp 1) (.t (J s)) = some (.t (.tup [encR (ruleD rs s), B (ruleOf rs s).isSome])) := by
  have := lk_mapOk (h := o :: mR rs :: hs) (o := 1) key3 typ74 zero55 s (f := fR) (l := ruM rs) rfl
  rw [show ofVal (kI s) = J s from rfl, mget_ru] at this
  rw [this, ruleD]
  cases ruleOf rs s <;> rfl
theorem lkF (F : Fates) (s q : Int) (o o1 : AObj) (hs : Heap) : lkV Tryd.prog 75 false (o :: o1 :: mF F :: hs) (.mp 2) (.t (.agg [J s, J q])) = some (.t (encF (fget F s q))) := by
  have := lk_map (h := o :: o1 :: mF F :: hs) (o := 2) key90 typ75 zero103 (s, q) (f := fF) (l := F) rfl
  rw [show ofVal (kF (s, q)) = .agg [J s, J q] from rfl] at this
  rw [this, fget]
  cases mget F (s, q) <;> rfl
theorem upF (F : Fates) (s q : Int) (f : Fate) (o o1 : AObj) (hs : Heap) : upV Tryd.prog 75 (o :: o1 :: mF F :: hs) (.mp 2) (.t (.agg [J s, J q])) (.t (encF f)) = some (o :: o1 :: mF (mput F (s, q) f) :: hs) := by
  have := up_map (h := o :: o1 :: mF F :: hs) (o := 2) key90 typ75 (s, q) f (f := fF) (l := F) rfl
  exact this
theorem lkW (W : List (Int × Int)) (s : Int) (o o1 o2 : AObj) (hs : Heap) : lkV Tryd.prog 76 false (o :: o1 :: o2 :: mW W :: hs) (.mp 3) (.t (J s)) = some (.t (J ((mget W s).getD 0))) := by
  have := lk_map (h := o :: o1 :: o2 :: mW W :: hs) (o := 3) key3 typ76 zero3 s (f := fI) (l := W) rfl
  rw [show ofVal (kI s) = J s from rfl] at this
  rw [this]
  cases mget W s <;> rfl
theorem lkWok (W : List (Int × Int)) (s : Int) (o o1 o2 : AObj) (hs : Heap) : lkV Tryd.prog 76 true (o :: o1 :: o2 :: mW W :: hs) (.mp 3) (.t (J s)) = some (.t (.tup [J ((mget W s).getD 0), B (mget W s).isSome])) := by
  have := lk_mapOk (h := o :: o1 :: o2 :: mW W :: hs) (o := 3) key3 typ76 zero3 s (f := fI) (l := W) rfl
  rw [show ofVal (kI s) = J s from rfl] at this
  rw [this]
  cases mget W s <;> rfl
theorem upW (W : List (Int × Int)) (s v : Int) (o o1 o2 : AObj) (hs : Heap) : upV Tryd.prog 76 (o :: o1 :: o2 :: mW W :: hs) (.mp 3) (.t (J s)) (.t (J v)) = some (o :: o1 :: o2 :: mW (mput W s v) :: hs) := by
  have := up_map (h := o :: o1 :: o2 :: mW W :: hs) (o := 3) key3 typ76 s v (f := fI) (l := W) rfl
  exact this
theorem upRu (rs : List Ru) (r : Ru) (hn : ruleOf rs r.s = none) (o : AObj) (hs : Heap) : upV Tryd.prog 74 (o :: mR rs :: hs) (.mp 1) (.t (J r.s)) (.t (encR r)) = some (o :: mR (rs ++ [r]) :: hs) := by
  have := up_map (h := o :: mR rs :: hs) (o := 1) key3 typ74 r.s r (f := fR) (l := ruM rs) rfl
  rw [show ofVal (kI r.s) = J r.s from rfl] at this
  rw [this]
  have key : ∀ (l : List (Int × Ru)) (k : Int) (v : Ru), mget l k = none → mput l k v = l ++ [(k, v)] := by
    intro l
    induction l with
    | nil => intro k v _; rfl
    | cons x l ih =>
      intro k v h
      obtain ⟨x1, x2⟩ := x
      rw [mget] at h
      split at h
      · cases h
      · rename_i q; rw [mput, if_neg q, ih k v h]; rfl
  have h2 : mput (ruM rs) r.s r = ruM (rs ++ [r]) := by rw [key _ _ _ (by rw [mget_ru]; exact hn)]; simp [ruM]
  rw [h2]
  rfl

theorem of_ans (x : Nt) : ans Tryd.prog pol 35 [.agg [J x.k, J x.s, J x.q, J x.t]] = some (.agg [J x.s, J x.q]) := by
  refine ans_go 1 1 il35_eq (Nat.le_of_ble_eq_true rfl) ?_
  (simp only [il35c, go_sem, reduceIte, Nat.reduceEqDiff, Nat.reduceAdd, Int.reduceEq, Nat.reduceLeDiff, Nat.reduceLT, Nat.reduceBEq, Nat.reduceMul, Nat.reduceSub, Int.reduceToNat, Int.reduceLE, Int.reduceLT, Int.reduceAdd, Int.reduceSub, Int.reduceMul, Int.reduceNeg, Int.reduceDiv, Int.reduceMod, Int.reduceTDiv, Int.reduceTMod, Int.reducePow] <;> (repeat' ((first | with_reducible refine brG_intro (fun hc => ?_) (fun hc => ?_) | with_reducible refine brC_intro (fun hc => ?_) (fun hc => ?_) | ((with_reducible refine c_opsD ?_); have hc := @List.length_nil Nat) | ((with_reducible refine c_opsT ?_); have hc := @List.length_nil Nat) | ((with_reducible refine and_crit ?_ ?_); rfl; have hc := @List.length_nil Nat) | ((with_reducible refine crit_done ?_); rfl) | ((with_reducible refine mkC_go (fun _ => ?_)); have hc := @List.length_nil Nat) | ((with_reducible refine mkL_go (fun _ => ?_)); have hc := @List.length_nil Nat)) <;> (try simp only [Bool.not_eq_true', Bool.not_eq_false', Bool.not_true, Bool.not_false] at hc) <;> (try simp only [hc, go_sem, reduceIte, Nat.reduceEqDiff, Nat.reduceAdd, Int.reduceEq, Nat.reduceLeDiff, Nat.reduceLT, Nat.reduceBEq, Nat.reduceMul, Nat.reduceSub, Int.reduceToNat, Int.reduceLE, Int.reduceLT, Int.reduceAdd, Int.reduceSub, Int.reduceMul, Int.reduceNeg, Int.reduceDiv, Int.reduceMod, Int.reduceTDiv, Int.reduceTMod, Int.reducePow]))))

section
variable (rs : List Ru) (F : Fates) (W : List (Int × Int)) (x : Nt) (o0 o5 o6 o8 o9 o10 o11 : AObj) (nn dd : Nat) (Q : AV → Heap → Prop)

def H12 : Heap := [o0, mR rs, mF F, mW W, oA, o5, o6, .row 1 [.ref 4 1 0 0] 0, o8, o9, o10, o11]

theorem unk_in (hQ : ∀ X, Q (.t (B (!(ruleOf rs x.s).isSome))) (H12 rs F W o0 o5 o6 o8 o9 o10 o11 ++ X)) :
    oB (inl Tryd.prog pol (ans Tryd.prog pol) nn (dd + 1) (.fn 43) [.ref 4 1 0 0, .t (encN x)] (H12 rs F W o0 o5 o6 o8 o9 o10 o11)) Q := by
  refine oB_inl il43_eq (Nat.le_of_ble_eq_true rfl) ?_
  simp only [H12, oA, encN] at hQ ⊢
  have k1 := lkRok rs x.s
  simp only [encR] at k1
  (simp only [il43c, go_sem, reduceIte, Nat.reduceEqDiff, Nat.reduceAdd, Int.reduceEq, Nat.reduceLeDiff, Nat.reduceLT, Nat.reduceBEq, Nat.reduceMul, Nat.reduceSub, Int.reduceToNat, Int.reduceLE, Int.reduceLT, Int.reduceAdd, Int.reduceSub, Int.reduceMul, Int.reduceNeg, Int.reduceDiv, Int.reduceMod, Int.reduceTDiv, Int.reduceTMod, Int.reducePow, k1] <;> (repeat' ((first | with_reducible refine brG_intro (fun hc => ?_) (fun hc => ?_) | with_reducible refine brC_intro (fun hc => ?_) (fun hc => ?_) | ((with_reducible refine c_opsD ?_); have hc := @List.length_nil Nat) | ((with_reducible refine c_opsT ?_); have hc := @List.length_nil Nat) | ((with_reducible refine and_crit ?_ ?_); rfl; have hc := @List.length_nil Nat) | ((with_reducible refine crit_done ?_); rfl) | ((with_reducible refine mkC_go (fun _ => ?_)); have hc := @List.length_nil Nat) | ((with_reducible refine mkL_go (fun _ => ?_)); have hc := @List.length_nil Nat)) <;> (try simp only [Bool.not_eq_true', Bool.not_eq_false', Bool.not_true, Bool.not_false] at hc) <;> (try simp only [hc, go_sem, reduceIte, Nat.reduceEqDiff, Nat.reduceAdd, Int.reduceEq, Nat.reduceLeDiff, Nat.reduceLT, Nat.reduceBEq, Nat.reduceMul, Nat.reduceSub, Int.reduceToNat, Int.reduceLE, Int.reduceLT, Int.reduceAdd, Int.reduceSub, Int.reduceMul, Int.reduceNeg, Int.reduceDiv, Int.reduceMod, Int.reduceTDiv, Int.reduceTMod, Int.reducePow, k1]))))
  exact hQ _

theorem again_in (hQ : ∀ X, Q (.t (B (decide (x.k = 1) && (fget F x.s x.q).sent))) (H12 rs F W o0 o5 o6 o8 o9 o10 o11 ++ X)) :
    oB (inl Tryd.prog pol (ans Tryd.prog pol) nn (dd + 1) (.fn 44) [.t (encN x), .ref 7 1 0 0] (H12 rs F W o0 o5 o6 o8 o9 o10 o11)) Q := by
  refine oB_inl il44_eq (Nat.le_of_ble_eq_true rfl) ?_
  simp only [H12, oA, encN] at hQ ⊢
  have k1 := lkF F x.s x.q
  simp only [encF] at k1
  have k2 := of_ans x
  cases d : decide (x.k = 1) with
  | true => rw [d] at hQ; (simp only [il44c, go_sem, reduceIte, Nat.reduceEqDiff, Nat.reduceAdd, Int.reduceEq, Nat.reduceLeDiff, Nat.reduceLT, Nat.reduceBEq, Nat.reduceMul, Nat.reduceSub, Int.reduceToNat, Int.reduceLE, Int.reduceLT, Int.reduceAdd, Int.reduceSub, Int.reduceMul, Int.reduceNeg, Int.reduceDiv, Int.reduceMod, Int.reduceTDiv, Int.reduceTMod, Int.reducePow, k1, k2, d] <;> (repeat' ((first | with_reducible refine brG_intro (fun hc => ?_) (fun hc => ?_) | with_reducible refine brC_intro (fun hc => ?_) (fun hc => ?_) | ((with_reducible refine c_opsD ?_); have hc := @List.length_nil Nat) | ((with_reducible refine c_opsT ?_); have hc := @List.length_nil Nat) | ((with_reducible refine and_crit ?_ ?_); rfl; have hc := @List.length_nil Nat) | ((with_reducible refine crit_done ?_); rfl) | ((with_reducible refine mkC_go (fun _ => ?_)); have hc := @List.length_nil Nat) | ((with_reducible refine mkL_go (fun _ => ?_)); have hc := @List.length_nil Nat)) <;> (try simp only [Bool.not_eq_true', Bool.not_eq_false', Bool.not_true, Bool.not_false] at hc) <;> (try simp only [hc, go_sem, reduceIte, Nat.reduceEqDiff, Nat.reduceAdd, Int.reduceEq, Nat.reduceLeDiff, Nat.reduceLT, Nat.reduceBEq, Nat.reduceMul, Nat.reduceSub, Int.reduceToNat, Int.reduceLE, Int.reduceLT, Int.reduceAdd, Int.reduceSub, Int.reduceMul, Int.reduceNeg, Int.reduceDiv, Int.reduceMod, Int.reduceTDiv, Int.reduceTMod, Int.reducePow, k1, k2, d])))); exact hQ []
  | false => rw [d] at hQ; (simp only [il44c, go_sem, reduceIte, Nat.reduceEqDiff, Nat.reduceAdd, Int.reduceEq, Nat.reduceLeDiff, Nat.reduceLT, Nat.reduceBEq, Nat.reduceMul, Nat.reduceSub, Int.reduceToNat, Int.reduceLE, Int.reduceLT, Int.reduceAdd, Int.reduceSub, Int.reduceMul, Int.reduceNeg, Int.reduceDiv, Int.reduceMod, Int.reduceTDiv, Int.reduceTMod, Int.reducePow, k1, k2, d] <;> (repeat' ((first | with_reducible refine brG_intro (fun hc => ?_) (fun hc => ?_) | with_reducible refine brC_intro (fun hc => ?_) (fun hc => ?_) | ((with_reducible refine c_opsD ?_); have hc := @List.length_nil Nat) | ((with_reducible refine c_opsT ?_); have hc := @List.length_nil Nat) | ((with_reducible refine and_crit ?_ ?_); rfl; have hc := @List.length_nil Nat) | ((with_reducible refine crit_done ?_); rfl) | ((with_reducible refine mkC_go (fun _ => ?_)); have hc := @List.length_nil Nat) | ((with_reducible refine mkL_go (fun _ => ?_)); have hc := @List.length_nil Nat)) <;> (try simp only [Bool.not_eq_true', Bool.not_eq_false', Bool.not_true, Bool.not_false] at hc) <;> (try simp only [hc, go_sem, reduceIte, Nat.reduceEqDiff, Nat.reduceAdd, Int.reduceEq, Nat.reduceLeDiff, Nat.reduceLT, Nat.reduceBEq, Nat.reduceMul, Nat.reduceSub, Int.reduceToNat, Int.reduceLE, Int.reduceLT, Int.reduceAdd, Int.reduceSub, Int.reduceMul, Int.reduceNeg, Int.reduceDiv, Int.reduceMod, Int.reduceTDiv, Int.reduceTMod, Int.reducePow, k1, k2, d])))); exact hQ []

theorem unsent_in (hQ : ∀ X, Q (.t (B (decide (x.k = 2) && !(fget F x.s x.q).sent))) (H12 rs F W o0 o5 o6 o8 o9 o10 o11 ++ X)) :
    oB (inl Tryd.prog pol (ans Tryd.prog pol) nn (dd + 1) (.fn 45) [.t (encN x), .ref 7 1 0 0] (H12 rs F W o0 o5 o6 o8 o9 o10 o11)) Q := by
  refine oB_inl il45_eq (Nat.le_of_ble_eq_true rfl) ?_
  simp only [H12, oA, encN] at hQ ⊢
  have k1 := lkF F x.s x.q
  simp only [encF] at k1
  have k2 := of_ans x
  cases d : decide (x.k = 2) with
  | true => rw [d] at hQ; (simp only [il45c, go_sem, reduceIte, Nat.reduceEqDiff, Nat.reduceAdd, Int.reduceEq, Nat.reduceLeDiff, Nat.reduceLT, Nat.reduceBEq, Nat.reduceMul, Nat.reduceSub, Int.reduceToNat, Int.reduceLE, Int.reduceLT, Int.reduceAdd, Int.reduceSub, Int.reduceMul, Int.reduceNeg, Int.reduceDiv, Int.reduceMod, Int.reduceTDiv, Int.reduceTMod, Int.reducePow, k1, k2, d] <;> (repeat' ((first | with_reducible refine brG_intro (fun hc => ?_) (fun hc => ?_) | with_reducible refine brC_intro (fun hc => ?_) (fun hc => ?_) | ((with_reducible refine c_opsD ?_); have hc := @List.length_nil Nat) | ((with_reducible refine c_opsT ?_); have hc := @List.length_nil Nat) | ((with_reducible refine and_crit ?_ ?_); rfl; have hc := @List.length_nil Nat) | ((with_reducible refine crit_done ?_); rfl) | ((with_reducible refine mkC_go (fun _ => ?_)); have hc := @List.length_nil Nat) | ((with_reducible refine mkL_go (fun _ => ?_)); have hc := @List.length_nil Nat)) <;> (try simp only [Bool.not_eq_true', Bool.not_eq_false', Bool.not_true, Bool.not_false] at hc) <;> (try simp only [hc, go_sem, reduceIte, Nat.reduceEqDiff, Nat.reduceAdd, Int.reduceEq, Nat.reduceLeDiff, Nat.reduceLT, Nat.reduceBEq, Nat.reduceMul, Nat.reduceSub, Int.reduceToNat, Int.reduceLE, Int.reduceLT, Int.reduceAdd, Int.reduceSub, Int.reduceMul, Int.reduceNeg, Int.reduceDiv, Int.reduceMod, Int.reduceTDiv, Int.reduceTMod, Int.reducePow, k1, k2, d])))); exact hQ []
  | false => rw [d] at hQ; (simp only [il45c, go_sem, reduceIte, Nat.reduceEqDiff, Nat.reduceAdd, Int.reduceEq, Nat.reduceLeDiff, Nat.reduceLT, Nat.reduceBEq, Nat.reduceMul, Nat.reduceSub, Int.reduceToNat, Int.reduceLE, Int.reduceLT, Int.reduceAdd, Int.reduceSub, Int.reduceMul, Int.reduceNeg, Int.reduceDiv, Int.reduceMod, Int.reduceTDiv, Int.reduceTMod, Int.reducePow, k1, k2, d] <;> (repeat' ((first | with_reducible refine brG_intro (fun hc => ?_) (fun hc => ?_) | with_reducible refine brC_intro (fun hc => ?_) (fun hc => ?_) | ((with_reducible refine c_opsD ?_); have hc := @List.length_nil Nat) | ((with_reducible refine c_opsT ?_); have hc := @List.length_nil Nat) | ((with_reducible refine and_crit ?_ ?_); rfl; have hc := @List.length_nil Nat) | ((with_reducible refine crit_done ?_); rfl) | ((with_reducible refine mkC_go (fun _ => ?_)); have hc := @List.length_nil Nat) | ((with_reducible refine mkL_go (fun _ => ?_)); have hc := @List.length_nil Nat)) <;> (try simp only [Bool.not_eq_true', Bool.not_eq_false', Bool.not_true, Bool.not_false] at hc) <;> (try simp only [hc, go_sem, reduceIte, Nat.reduceEqDiff, Nat.reduceAdd, Int.reduceEq, Nat.reduceLeDiff, Nat.reduceLT, Nat.reduceBEq, Nat.reduceMul, Nat.reduceSub, Int.reduceToNat, Int.reduceLE, Int.reduceLT, Int.reduceAdd, Int.reduceSub, Int.reduceMul, Int.reduceNeg, Int.reduceDiv, Int.reduceMod, Int.reduceTDiv, Int.reduceTMod, Int.reducePow, k1, k2, d])))); exact hQ []

theorem twice_in (hQ : ∀ X, Q (.t (B (decide (x.k = 2) && (fget F x.s x.q).got))) (H12 rs F W o0 o5 o6 o8 o9 o10 o11 ++ X)) :
    oB (inl Tryd.prog pol (ans Tryd.prog pol) nn (dd + 1) (.fn 46) [.t (encN x), .ref 7 1 0 0] (H12 rs F W o0 o5 o6 o8 o9 o10 o11)) Q := by
  refine oB_inl il46_eq (Nat.le_of_ble_eq_true rfl) ?_
  simp only [H12, oA, encN] at hQ ⊢
  have k1 := lkF F x.s x.q
  simp only [encF] at k1
  have k2 := of_ans x
  cases d : decide (x.k = 2) with
  | true => rw [d] at hQ; (simp only [il46c, go_sem, reduceIte, Nat.reduceEqDiff, Nat.reduceAdd, Int.reduceEq, Nat.reduceLeDiff, Nat.reduceLT, Nat.reduceBEq, Nat.reduceMul, Nat.reduceSub, Int.reduceToNat, Int.reduceLE, Int.reduceLT, Int.reduceAdd, Int.reduceSub, Int.reduceMul, Int.reduceNeg, Int.reduceDiv, Int.reduceMod, Int.reduceTDiv, Int.reduceTMod, Int.reducePow, k1, k2, d] <;> (repeat' ((first | with_reducible refine brG_intro (fun hc => ?_) (fun hc => ?_) | with_reducible refine brC_intro (fun hc => ?_) (fun hc => ?_) | ((with_reducible refine c_opsD ?_); have hc := @List.length_nil Nat) | ((with_reducible refine c_opsT ?_); have hc := @List.length_nil Nat) | ((with_reducible refine and_crit ?_ ?_); rfl; have hc := @List.length_nil Nat) | ((with_reducible refine crit_done ?_); rfl) | ((with_reducible refine mkC_go (fun _ => ?_)); have hc := @List.length_nil Nat) | ((with_reducible refine mkL_go (fun _ => ?_)); have hc := @List.length_nil Nat)) <;> (try simp only [Bool.not_eq_true', Bool.not_eq_false', Bool.not_true, Bool.not_false] at hc) <;> (try simp only [hc, go_sem, reduceIte, Nat.reduceEqDiff, Nat.reduceAdd, Int.reduceEq, Nat.reduceLeDiff, Nat.reduceLT, Nat.reduceBEq, Nat.reduceMul, Nat.reduceSub, Int.reduceToNat, Int.reduceLE, Int.reduceLT, Int.reduceAdd, Int.reduceSub, Int.reduceMul, Int.reduceNeg, Int.reduceDiv, Int.reduceMod, Int.reduceTDiv, Int.reduceTMod, Int.reducePow, k1, k2, d])))); exact hQ []
  | false => rw [d] at hQ; (simp only [il46c, go_sem, reduceIte, Nat.reduceEqDiff, Nat.reduceAdd, Int.reduceEq, Nat.reduceLeDiff, Nat.reduceLT, Nat.reduceBEq, Nat.reduceMul, Nat.reduceSub, Int.reduceToNat, Int.reduceLE, Int.reduceLT, Int.reduceAdd, Int.reduceSub, Int.reduceMul, Int.reduceNeg, Int.reduceDiv, Int.reduceMod, Int.reduceTDiv, Int.reduceTMod, Int.reducePow, k1, k2, d] <;> (repeat' ((first | with_reducible refine brG_intro (fun hc => ?_) (fun hc => ?_) | with_reducible refine brC_intro (fun hc => ?_) (fun hc => ?_) | ((with_reducible refine c_opsD ?_); have hc := @List.length_nil Nat) | ((with_reducible refine c_opsT ?_); have hc := @List.length_nil Nat) | ((with_reducible refine and_crit ?_ ?_); rfl; have hc := @List.length_nil Nat) | ((with_reducible refine crit_done ?_); rfl) | ((with_reducible refine mkC_go (fun _ => ?_)); have hc := @List.length_nil Nat) | ((with_reducible refine mkL_go (fun _ => ?_)); have hc := @List.length_nil Nat)) <;> (try simp only [Bool.not_eq_true', Bool.not_eq_false', Bool.not_true, Bool.not_false] at hc) <;> (try simp only [hc, go_sem, reduceIte, Nat.reduceEqDiff, Nat.reduceAdd, Int.reduceEq, Nat.reduceLeDiff, Nat.reduceLT, Nat.reduceBEq, Nat.reduceMul, Nat.reduceSub, Int.reduceToNat, Int.reduceLE, Int.reduceLT, Int.reduceAdd, Int.reduceSub, Int.reduceMul, Int.reduceNeg, Int.reduceDiv, Int.reduceMod, Int.reduceTDiv, Int.reduceTMod, Int.reducePow, k1, k2, d])))); exact hQ []

theorem early_in (hw : IntKind.i64.wrap (x.t - (fget F x.s x.q).at_) = x.t - (fget F x.s x.q).at_) (hQ : ∀ X, Q (.t (B (decide (x.k = 2) && decide (x.t - (fget F x.s x.q).at_ < (ruleD rs x.s).le)))) (H12 rs F W o0 o5 o6 o8 o9 o10 o11 ++ X)) :
    oB (inl Tryd.prog pol (ans Tryd.prog pol) nn (dd + 1) (.fn 47) [.t (encN x), .ref 7 1 0 0] (H12 rs F W o0 o5 o6 o8 o9 o10 o11)) Q := by
  refine oB_inl il47_eq (Nat.le_of_ble_eq_true rfl) ?_
  simp only [H12, oA, encN] at hQ ⊢
  have k1 := lkF F x.s x.q
  simp only [encF] at k1
  have k2 := of_ans x
  have k3 := lkR rs x.s
  simp only [encR] at k3
  cases d : decide (x.k = 2) with
  | true => rw [d] at hQ; (simp only [il47c, go_sem, reduceIte, Nat.reduceEqDiff, Nat.reduceAdd, Int.reduceEq, Nat.reduceLeDiff, Nat.reduceLT, Nat.reduceBEq, Nat.reduceMul, Nat.reduceSub, Int.reduceToNat, Int.reduceLE, Int.reduceLT, Int.reduceAdd, Int.reduceSub, Int.reduceMul, Int.reduceNeg, Int.reduceDiv, Int.reduceMod, Int.reduceTDiv, Int.reduceTMod, Int.reducePow, k1, k2, k3, d, hw] <;> (repeat' ((first | with_reducible refine brG_intro (fun hc => ?_) (fun hc => ?_) | with_reducible refine brC_intro (fun hc => ?_) (fun hc => ?_) | ((with_reducible refine c_opsD ?_); have hc := @List.length_nil Nat) | ((with_reducible refine c_opsT ?_); have hc := @List.length_nil Nat) | ((with_reducible refine and_crit ?_ ?_); rfl; have hc := @List.length_nil Nat) | ((with_reducible refine crit_done ?_); rfl) | ((with_reducible refine mkC_go (fun _ => ?_)); have hc := @List.length_nil Nat) | ((with_reducible refine mkL_go (fun _ => ?_)); have hc := @List.length_nil Nat)) <;> (try simp only [Bool.not_eq_true', Bool.not_eq_false', Bool.not_true, Bool.not_false] at hc) <;> (try simp only [hc, go_sem, reduceIte, Nat.reduceEqDiff, Nat.reduceAdd, Int.reduceEq, Nat.reduceLeDiff, Nat.reduceLT, Nat.reduceBEq, Nat.reduceMul, Nat.reduceSub, Int.reduceToNat, Int.reduceLE, Int.reduceLT, Int.reduceAdd, Int.reduceSub, Int.reduceMul, Int.reduceNeg, Int.reduceDiv, Int.reduceMod, Int.reduceTDiv, Int.reduceTMod, Int.reducePow, k1, k2, k3, d, hw])))); exact hQ []
  | false => rw [d] at hQ; (simp only [il47c, go_sem, reduceIte, Nat.reduceEqDiff, Nat.reduceAdd, Int.reduceEq, Nat.reduceLeDiff, Nat.reduceLT, Nat.reduceBEq, Nat.reduceMul, Nat.reduceSub, Int.reduceToNat, Int.reduceLE, Int.reduceLT, Int.reduceAdd, Int.reduceSub, Int.reduceMul, Int.reduceNeg, Int.reduceDiv, Int.reduceMod, Int.reduceTDiv, Int.reduceTMod, Int.reducePow, k1, k2, k3, d, hw] <;> (repeat' ((first | with_reducible refine brG_intro (fun hc => ?_) (fun hc => ?_) | with_reducible refine brC_intro (fun hc => ?_) (fun hc => ?_) | ((with_reducible refine c_opsD ?_); have hc := @List.length_nil Nat) | ((with_reducible refine c_opsT ?_); have hc := @List.length_nil Nat) | ((with_reducible refine and_crit ?_ ?_); rfl; have hc := @List.length_nil Nat) | ((with_reducible refine crit_done ?_); rfl) | ((with_reducible refine mkC_go (fun _ => ?_)); have hc := @List.length_nil Nat) | ((with_reducible refine mkL_go (fun _ => ?_)); have hc := @List.length_nil Nat)) <;> (try simp only [Bool.not_eq_true', Bool.not_eq_false', Bool.not_true, Bool.not_false] at hc) <;> (try simp only [hc, go_sem, reduceIte, Nat.reduceEqDiff, Nat.reduceAdd, Int.reduceEq, Nat.reduceLeDiff, Nat.reduceLT, Nat.reduceBEq, Nat.reduceMul, Nat.reduceSub, Int.reduceToNat, Int.reduceLE, Int.reduceLT, Int.reduceAdd, Int.reduceSub, Int.reduceMul, Int.reduceNeg, Int.reduceDiv, Int.reduceMod, Int.reduceTDiv, Int.reduceTMod, Int.reducePow, k1, k2, k3, d, hw])))); exact hQ []

theorem late_in (hw : IntKind.i64.wrap (x.t - (fget F x.s x.q).at_) = x.t - (fget F x.s x.q).at_) (hQ : ∀ X, Q (.t (B (decide (x.k = 2) && decide ((ruleD rs x.s).mo < x.t - (fget F x.s x.q).at_)))) (H12 rs F W o0 o5 o6 o8 o9 o10 o11 ++ X)) :
    oB (inl Tryd.prog pol (ans Tryd.prog pol) nn (dd + 1) (.fn 48) [.t (encN x), .ref 7 1 0 0] (H12 rs F W o0 o5 o6 o8 o9 o10 o11)) Q := by
  refine oB_inl il48_eq (Nat.le_of_ble_eq_true rfl) ?_
  simp only [H12, oA, encN] at hQ ⊢
  have k1 := lkF F x.s x.q
  simp only [encF] at k1
  have k2 := of_ans x
  have k3 := lkR rs x.s
  simp only [encR] at k3
  cases d : decide (x.k = 2) with
  | true => rw [d] at hQ; (simp only [il48c, go_sem, reduceIte, Nat.reduceEqDiff, Nat.reduceAdd, Int.reduceEq, Nat.reduceLeDiff, Nat.reduceLT, Nat.reduceBEq, Nat.reduceMul, Nat.reduceSub, Int.reduceToNat, Int.reduceLE, Int.reduceLT, Int.reduceAdd, Int.reduceSub, Int.reduceMul, Int.reduceNeg, Int.reduceDiv, Int.reduceMod, Int.reduceTDiv, Int.reduceTMod, Int.reducePow, k1, k2, k3, d, hw] <;> (repeat' ((first | with_reducible refine brG_intro (fun hc => ?_) (fun hc => ?_) | with_reducible refine brC_intro (fun hc => ?_) (fun hc => ?_) | ((with_reducible refine c_opsD ?_); have hc := @List.length_nil Nat) | ((with_reducible refine c_opsT ?_); have hc := @List.length_nil Nat) | ((with_reducible refine and_crit ?_ ?_); rfl; have hc := @List.length_nil Nat) | ((with_reducible refine crit_done ?_); rfl) | ((with_reducible refine mkC_go (fun _ => ?_)); have hc := @List.length_nil Nat) | ((with_reducible refine mkL_go (fun _ => ?_)); have hc := @List.length_nil Nat)) <;> (try simp only [Bool.not_eq_true', Bool.not_eq_false', Bool.not_true, Bool.not_false] at hc) <;> (try simp only [hc, go_sem, reduceIte, Nat.reduceEqDiff, Nat.reduceAdd, Int.reduceEq, Nat.reduceLeDiff, Nat.reduceLT, Nat.reduceBEq, Nat.reduceMul, Nat.reduceSub, Int.reduceToNat, Int.reduceLE, Int.reduceLT, Int.reduceAdd, Int.reduceSub, Int.reduceMul, Int.reduceNeg, Int.reduceDiv, Int.reduceMod, Int.reduceTDiv, Int.reduceTMod, Int.reducePow, k1, k2, k3, d, hw])))); exact hQ []
  | false => rw [d] at hQ; (simp only [il48c, go_sem, reduceIte, Nat.reduceEqDiff, Nat.reduceAdd, Int.reduceEq, Nat.reduceLeDiff, Nat.reduceLT, Nat.reduceBEq, Nat.reduceMul, Nat.reduceSub, Int.reduceToNat, Int.reduceLE, Int.reduceLT, Int.reduceAdd, Int.reduceSub, Int.reduceMul, Int.reduceNeg, Int.reduceDiv, Int.reduceMod, Int.reduceTDiv, Int.reduceTMod, Int.reducePow, k1, k2, k3, d, hw] <;> (repeat' ((first | with_reducible refine brG_intro (fun hc => ?_) (fun hc => ?_) | with_reducible refine brC_intro (fun hc => ?_) (fun hc => ?_) | ((with_reducible refine c_opsD ?_); have hc := @List.length_nil Nat) | ((with_reducible refine c_opsT ?_); have hc := @List.length_nil Nat) | ((with_reducible refine and_crit ?_ ?_); rfl; have hc := @List.length_nil Nat) | ((with_reducible refine crit_done ?_); rfl) | ((with_reducible refine mkC_go (fun _ => ?_)); have hc := @List.length_nil Nat) | ((with_reducible refine mkL_go (fun _ => ?_)); have hc := @List.length_nil Nat)) <;> (try simp only [Bool.not_eq_true', Bool.not_eq_false', Bool.not_true, Bool.not_false] at hc) <;> (try simp only [hc, go_sem, reduceIte, Nat.reduceEqDiff, Nat.reduceAdd, Int.reduceEq, Nat.reduceLeDiff, Nat.reduceLT, Nat.reduceBEq, Nat.reduceMul, Nat.reduceSub, Int.reduceToNat, Int.reduceLE, Int.reduceLT, Int.reduceAdd, Int.reduceSub, Int.reduceMul, Int.reduceNeg, Int.reduceDiv, Int.reduceMod, Int.reduceTDiv, Int.reduceTMod, Int.reducePow, k1, k2, k3, d, hw])))); exact hQ []

theorem over_in (hQ : ∀ X, Q (.t (B (decide (x.k = 2) && ((ruleD rs x.s).od && ovt W x.s (fget F x.s x.q).ix)))) (H12 rs F W o0 o5 o6 o8 o9 o10 o11 ++ X)) :
    oB (inl Tryd.prog pol (ans Tryd.prog pol) nn (dd + 1) (.fn 49) [.ref 4 1 0 0, .t (encN x)] (H12 rs F W o0 o5 o6 o8 o9 o10 o11)) Q := by
  refine oB_inl il49_eq (Nat.le_of_ble_eq_true rfl) ?_
  simp only [H12, oA, encN] at hQ ⊢
  have k1 := lkF F x.s x.q
  simp only [encF] at k1
  have k2 := of_ans x
  have k3 := lkR rs x.s
  simp only [encR] at k3
  have k4 := lkWok W x.s
  unfold ovt at hQ
  cases d : decide (x.k = 2) with
  | false => rw [d] at hQ; (simp only [il49c, go_sem, reduceIte, Nat.reduceEqDiff, Nat.reduceAdd, Int.reduceEq, Nat.reduceLeDiff, Nat.reduceLT, Nat.reduceBEq, Nat.reduceMul, Nat.reduceSub, Int.reduceToNat, Int.reduceLE, Int.reduceLT, Int.reduceAdd, Int.reduceSub, Int.reduceMul, Int.reduceNeg, Int.reduceDiv, Int.reduceMod, Int.reduceTDiv, Int.reduceTMod, Int.reducePow, k1, k2, k3, k4, d] <;> (repeat' ((first | with_reducible refine brG_intro (fun hc => ?_) (fun hc => ?_) | with_reducible refine brC_intro (fun hc => ?_) (fun hc => ?_) | ((with_reducible refine c_opsD ?_); have hc := @List.length_nil Nat) | ((with_reducible refine c_opsT ?_); have hc := @List.length_nil Nat) | ((with_reducible refine and_crit ?_ ?_); rfl; have hc := @List.length_nil Nat) | ((with_reducible refine crit_done ?_); rfl) | ((with_reducible refine mkC_go (fun _ => ?_)); have hc := @List.length_nil Nat) | ((with_reducible refine mkL_go (fun _ => ?_)); have hc := @List.length_nil Nat)) <;> (try simp only [Bool.not_eq_true', Bool.not_eq_false', Bool.not_true, Bool.not_false] at hc) <;> (try simp only [hc, go_sem, reduceIte, Nat.reduceEqDiff, Nat.reduceAdd, Int.reduceEq, Nat.reduceLeDiff, Nat.reduceLT, Nat.reduceBEq, Nat.reduceMul, Nat.reduceSub, Int.reduceToNat, Int.reduceLE, Int.reduceLT, Int.reduceAdd, Int.reduceSub, Int.reduceMul, Int.reduceNeg, Int.reduceDiv, Int.reduceMod, Int.reduceTDiv, Int.reduceTMod, Int.reducePow, k1, k2, k3, k4, d])))); exact hQ []
  | true =>
    rw [d] at hQ
    cases hod : (ruleD rs x.s).od with
    | false => rw [hod] at hQ k3; (simp only [il49c, go_sem, reduceIte, Nat.reduceEqDiff, Nat.reduceAdd, Int.reduceEq, Nat.reduceLeDiff, Nat.reduceLT, Nat.reduceBEq, Nat.reduceMul, Nat.reduceSub, Int.reduceToNat, Int.reduceLE, Int.reduceLT, Int.reduceAdd, Int.reduceSub, Int.reduceMul, Int.reduceNeg, Int.reduceDiv, Int.reduceMod, Int.reduceTDiv, Int.reduceTMod, Int.reducePow, k1, k2, k3, k4, d] <;> (repeat' ((first | with_reducible refine brG_intro (fun hc => ?_) (fun hc => ?_) | with_reducible refine brC_intro (fun hc => ?_) (fun hc => ?_) | ((with_reducible refine c_opsD ?_); have hc := @List.length_nil Nat) | ((with_reducible refine c_opsT ?_); have hc := @List.length_nil Nat) | ((with_reducible refine and_crit ?_ ?_); rfl; have hc := @List.length_nil Nat) | ((with_reducible refine crit_done ?_); rfl) | ((with_reducible refine mkC_go (fun _ => ?_)); have hc := @List.length_nil Nat) | ((with_reducible refine mkL_go (fun _ => ?_)); have hc := @List.length_nil Nat)) <;> (try simp only [Bool.not_eq_true', Bool.not_eq_false', Bool.not_true, Bool.not_false] at hc) <;> (try simp only [hc, go_sem, reduceIte, Nat.reduceEqDiff, Nat.reduceAdd, Int.reduceEq, Nat.reduceLeDiff, Nat.reduceLT, Nat.reduceBEq, Nat.reduceMul, Nat.reduceSub, Int.reduceToNat, Int.reduceLE, Int.reduceLT, Int.reduceAdd, Int.reduceSub, Int.reduceMul, Int.reduceNeg, Int.reduceDiv, Int.reduceMod, Int.reduceTDiv, Int.reduceTMod, Int.reducePow, k1, k2, k3, k4, d])))); exact hQ []
    | true =>
      rw [hod] at hQ k3
      cases hm : mget W x.s with
      | none =>
        rw [hm] at hQ k4
        simp only [Option.getD_none, Option.isSome_none] at k4
        (simp only [il49c, go_sem, reduceIte, Nat.reduceEqDiff, Nat.reduceAdd, Int.reduceEq, Nat.reduceLeDiff, Nat.reduceLT, Nat.reduceBEq, Nat.reduceMul, Nat.reduceSub, Int.reduceToNat, Int.reduceLE, Int.reduceLT, Int.reduceAdd, Int.reduceSub, Int.reduceMul, Int.reduceNeg, Int.reduceDiv, Int.reduceMod, Int.reduceTDiv, Int.reduceTMod, Int.reducePow, k1, k2, k3, k4, d] <;> (repeat' ((first | with_reducible refine brG_intro (fun hc => ?_) (fun hc => ?_) | with_reducible refine brC_intro (fun hc => ?_) (fun hc => ?_) | ((with_reducible refine c_opsD ?_); have hc := @List.length_nil Nat) | ((with_reducible refine c_opsT ?_); have hc := @List.length_nil Nat) | ((with_reducible refine and_crit ?_ ?_); rfl; have hc := @List.length_nil Nat) | ((with_reducible refine crit_done ?_); rfl) | ((with_reducible refine mkC_go (fun _ => ?_)); have hc := @List.length_nil Nat) | ((with_reducible refine mkL_go (fun _ => ?_)); have hc := @List.length_nil Nat)) <;> (try simp only [Bool.not_eq_true', Bool.not_eq_false', Bool.not_true, Bool.not_false] at hc) <;> (try simp only [hc, go_sem, reduceIte, Nat.reduceEqDiff, Nat.reduceAdd, Int.reduceEq, Nat.reduceLeDiff, Nat.reduceLT, Nat.reduceBEq, Nat.reduceMul, Nat.reduceSub, Int.reduceToNat, Int.reduceLE, Int.reduceLT, Int.reduceAdd, Int.reduceSub, Int.reduceMul, Int.reduceNeg, Int.reduceDiv, Int.reduceMod, Int.reduceTDiv, Int.reduceTMod, Int.reducePow, k1, k2, k3, k4, d])))); exact hQ []
      | some m =>
        rw [hm] at hQ k4
        simp only [Option.getD_some, Option.isSome_some] at k4
        (simp only [il49c, go_sem, reduceIte, Nat.reduceEqDiff, Nat.reduceAdd, Int.reduceEq, Nat.reduceLeDiff, Nat.reduceLT, Nat.reduceBEq, Nat.reduceMul, Nat.reduceSub, Int.reduceToNat, Int.reduceLE, Int.reduceLT, Int.reduceAdd, Int.reduceSub, Int.reduceMul, Int.reduceNeg, Int.reduceDiv, Int.reduceMod, Int.reduceTDiv, Int.reduceTMod, Int.reducePow, k1, k2, k3, k4, d] <;> (repeat' ((first | with_reducible refine brG_intro (fun hc => ?_) (fun hc => ?_) | with_reducible refine brC_intro (fun hc => ?_) (fun hc => ?_) | ((with_reducible refine c_opsD ?_); have hc := @List.length_nil Nat) | ((with_reducible refine c_opsT ?_); have hc := @List.length_nil Nat) | ((with_reducible refine and_crit ?_ ?_); rfl; have hc := @List.length_nil Nat) | ((with_reducible refine crit_done ?_); rfl) | ((with_reducible refine mkC_go (fun _ => ?_)); have hc := @List.length_nil Nat) | ((with_reducible refine mkL_go (fun _ => ?_)); have hc := @List.length_nil Nat)) <;> (try simp only [Bool.not_eq_true', Bool.not_eq_false', Bool.not_true, Bool.not_false] at hc) <;> (try simp only [hc, go_sem, reduceIte, Nat.reduceEqDiff, Nat.reduceAdd, Int.reduceEq, Nat.reduceLeDiff, Nat.reduceLT, Nat.reduceBEq, Nat.reduceMul, Nat.reduceSub, Int.reduceToNat, Int.reduceLE, Int.reduceLT, Int.reduceAdd, Int.reduceSub, Int.reduceMul, Int.reduceNeg, Int.reduceDiv, Int.reduceMod, Int.reduceTDiv, Int.reduceTMod, Int.reducePow, k1, k2, k3, k4, d])))); exact hQ []

def H11 : Heap := [o0, mR rs, mF F, mW W, oA, o5, o6, .row 1 [.ref 4 1 0 0] 0, o8, o9, o10]

theorem learn_in (i : Nat) (hk : x.k = 1 ∨ x.k = 2) (hQ : ∀ v X, Q v (H11 rs (lrnF i x F) (lrnW x F W) o0 o5 o6 o8 o9 o10 ++ X)) :
    oB (inl Tryd.prog pol (ans Tryd.prog pol) nn (dd + 1) (.fn 40) [.ref 4 1 0 0, .t (J (i : Nat)), .t (encN x)] (H11 rs F W o0 o5 o6 o8 o9 o10)) Q := by
  refine oB_inl il40_eq (Nat.le_of_ble_eq_true rfl) ?_
  simp only [H11, oA, encN] at hQ ⊢
  have k1 := lkF F x.s x.q
  simp only [encF] at k1
  have k2 := of_ans x
  have k4 := lkW W x.s
  have k5 := upF F x.s x.q ⟨true, false, (i : Nat), x.t⟩
  have k6 := upF F x.s x.q ⟨(fget F x.s x.q).sent, true, (fget F x.s x.q).ix, (fget F x.s x.q).at_⟩
  have k7 := upW W x.s (max ((mget W x.s).getD 0) (fget F x.s x.q).ix)
  simp only [encF] at k5 k6
  have hmx : ∀ a b : Int, (if a < b then b else a) = max a b := fun a b => by split <;> omega
  unfold lrnF lrnW at hQ
  rcases hk with hk | hk
  · have d : decide (x.k = 1) = true := decide_eq_true hk
    simp only [if_pos hk] at hQ
    (simp only [il40c, go_sem, reduceIte, Nat.reduceEqDiff, Nat.reduceAdd, Int.reduceEq, Nat.reduceLeDiff, Nat.reduceLT, Nat.reduceBEq, Nat.reduceMul, Nat.reduceSub, Int.reduceToNat, Int.reduceLE, Int.reduceLT, Int.reduceAdd, Int.reduceSub, Int.reduceMul, Int.reduceNeg, Int.reduceDiv, Int.reduceMod, Int.reduceTDiv, Int.reduceTMod, Int.reducePow, k1, k2, k4, k5, d] <;> (repeat' ((first | with_reducible refine brG_intro (fun hc => ?_) (fun hc => ?_) | with_reducible refine brC_intro (fun hc => ?_) (fun hc => ?_) | ((with_reducible refine c_opsD ?_); have hc := @List.length_nil Nat) | ((with_reducible refine c_opsT ?_); have hc := @List.length_nil Nat) | ((with_reducible refine and_crit ?_ ?_); rfl; have hc := @List.length_nil Nat) | ((with_reducible refine crit_done ?_); rfl) | ((with_reducible refine mkC_go (fun _ => ?_)); have hc := @List.length_nil Nat) | ((with_reducible refine mkL_go (fun _ => ?_)); have hc := @List.length_nil Nat)) <;> (try simp only [Bool.not_eq_true', Bool.not_eq_false', Bool.not_true, Bool.not_false] at hc) <;> (try simp only [hc, go_sem, reduceIte, Nat.reduceEqDiff, Nat.reduceAdd, Int.reduceEq, Nat.reduceLeDiff, Nat.reduceLT, Nat.reduceBEq, Nat.reduceMul, Nat.reduceSub, Int.reduceToNat, Int.reduceLE, Int.reduceLT, Int.reduceAdd, Int.reduceSub, Int.reduceMul, Int.reduceNeg, Int.reduceDiv, Int.reduceMod, Int.reduceTDiv, Int.reduceTMod, Int.reducePow, k1, k2, k4, k5, d]))))
    exact hQ _ _
  · have d : decide (x.k = 1) = false := decide_eq_false (by omega)
    simp only [if_neg (show ¬ x.k = 1 by omega)] at hQ
    (simp only [il40c, go_sem, reduceIte, Nat.reduceEqDiff, Nat.reduceAdd, Int.reduceEq, Nat.reduceLeDiff, Nat.reduceLT, Nat.reduceBEq, Nat.reduceMul, Nat.reduceSub, Int.reduceToNat, Int.reduceLE, Int.reduceLT, Int.reduceAdd, Int.reduceSub, Int.reduceMul, Int.reduceNeg, Int.reduceDiv, Int.reduceMod, Int.reduceTDiv, Int.reduceTMod, Int.reducePow, k1, k2, k4, k6, k7, d, hmx] <;> (repeat' ((first | with_reducible refine brG_intro (fun hc => ?_) (fun hc => ?_) | with_reducible refine brC_intro (fun hc => ?_) (fun hc => ?_) | ((with_reducible refine c_opsD ?_); have hc := @List.length_nil Nat) | ((with_reducible refine c_opsT ?_); have hc := @List.length_nil Nat) | ((with_reducible refine and_crit ?_ ?_); rfl; have hc := @List.length_nil Nat) | ((with_reducible refine crit_done ?_); rfl) | ((with_reducible refine mkC_go (fun _ => ?_)); have hc := @List.length_nil Nat) | ((with_reducible refine mkL_go (fun _ => ?_)); have hc := @List.length_nil Nat)) <;> (try simp only [Bool.not_eq_true', Bool.not_eq_false', Bool.not_true, Bool.not_false] at hc) <;> (try simp only [hc, go_sem, reduceIte, Nat.reduceEqDiff, Nat.reduceAdd, Int.reduceEq, Nat.reduceLeDiff, Nat.reduceLT, Nat.reduceBEq, Nat.reduceMul, Nat.reduceSub, Int.reduceToNat, Int.reduceLE, Int.reduceLT, Int.reduceAdd, Int.reduceSub, Int.reduceMul, Int.reduceNeg, Int.reduceDiv, Int.reduceMod, Int.reduceTDiv, Int.reduceTMod, Int.reducePow, k1, k2, k4, k6, k7, d, hmx]))))
    exact hQ _ _
end

end Go.Proofs.YthcaepnclhgkmaaDoor
