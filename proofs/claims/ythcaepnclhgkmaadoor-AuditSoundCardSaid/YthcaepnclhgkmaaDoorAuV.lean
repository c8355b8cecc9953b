/- The law AuditSound: where the auditor names a fault. -/
import Derived.Test.YthcaepnclhgkmaaDoorAuU
namespace Go.Proofs.YthcaepnclhgkmaaDoor
open Go Go.Abs
set_option linter.unusedSimpArgs false
set_option linter.unusedVariables false
set_option maxRecDepth 100000
set_option maxHeartbeats 4000000

theorem lostF_get {rs : List Ru} {log : List Nt} {u : Int} : ∀ (l p : List Nt) {i : Nat} {x : Nt}, foldC (fun i x (_ : Unit) => if lostQ rs log u x = true then Ctl.out (some (i, x)) else Ctl.go ()) (fun _ => (none : Option (Nat × Nt))) p.length l () = some (i, x) → i < (p ++ l).length ∧ (p ++ l)[i]? = some x := by
  intro l
  induction l with
  | nil => intro p i x h; exact (by cases h)
  | cons y l ih =>
    intro p i x h
    cases hq : lostQ rs log u y with
    | true =>
      rw [foldC_out (r := some (p.length, y)) (by simp [hq])] at h
      cases h
      exact ⟨by simp, by simp⟩
    | false =>
      rw [foldC_go (s' := ()) (by simp [hq])] at h
      have := ih (p ++ [y]) (i := i) (x := x) (by simpa using h)
      simpa using this

theorem someF_get : ∀ (w : List Wi) (i j : Nat) {r : Ru}, (someF i w)[j]? = some r → r.s = ((i + j + 1 : Nat) : Int) := by
  intro w
  induction w with
  | nil => intro i j r h; simp [someF] at h
  | cons a w ih =>
    intro i j r h
    rw [someF] at h
    split at h
    · cases j with
      | zero => simp at h; subst h; simp [ruW]
      | succ j =>
        have := ih (i + 1) j (r := r) (by simpa using h)
        rw [this]; push_cast; omega
    · simp at h

/-- The rule of a stream stands at the stream's own place. -/
theorem someF_rule {w : List Wi} {s : Int} {r : Ru} (h : ruleOf (someF 0 w) s = some r) : ∃ j : Nat, s = ((j + 1 : Nat) : Int) ∧ j < (someF 0 w).length ∧ (someF 0 w)[j]? = some r := by
  obtain ⟨hm, hs⟩ := ruleOf_mem h
  obtain ⟨j, hj⟩ := List.mem_iff_getElem?.mp hm
  have h2 := someF_get w 0 j hj
  refine ⟨j, by rw [← hs, h2]; push_cast; omega, ?_, hj⟩
  exact (List.getElem?_eq_some_iff.mp hj).1

theorem until_eq (L : List Nt) (v : Nat) : (v : Int) + lastT L = if 0 < L.length then (v : Int) + tAt L (L.length - 1) else (v : Int) := by
  unfold lastT tAt
  rw [← List.getLast?_eq_getElem?]
  cases hg : L.getLast? with
  | none => have : L = [] := by simpa using hg
            subst this; simp
  | some y => cases L with
    | nil => simp at hg
    | cons a l => simp

theorem auditSound_fault (w : List Wi) (m : List Mv) (v : Nat) (hv : v < 65536) (hwl : w.length < 9223372036854775808) (hw : ∀ x ∈ w, okW x) (hml : m.length < 9223372036854775808) (hm : ∀ x ∈ m, okM x) {k : Int} {i : Nat} {x : Nt}
    (hk : 1 ≤ k ∧ k ≤ 8) (hi : i < (logF 0 0 m).length ∧ (logF 0 0 m)[i]? = some x) (hf : refT (someF 0 w) (logF 0 0 m) (v + lastT (logF 0 0 m)) = fltT (k, i, x)) :
    ans Tryd.prog pol 5 [.sl false 3 (w.map encW), .sl false 5 (m.map encM), .sc (.int .u16 v)] = some (B true) := by
  have c1 := some_ans w hwl hw
  have hS := some_ok w 0 hw (by omega)
  have c2 := log_ans m hml hm
  obtain ⟨hLc, hL, hLt⟩ := log_ok m 0 0 hm (by omega) (by omega) (by omega)
  generalize someF 0 w = S at c1 hS hf
  generalize logF 0 0 m = L at c2 hLc hL hLt hf hi
  obtain ⟨hil, hix⟩ := hi
  have hS' : S.length ≤ 12 ∧ chkR 0 S = true := ⟨by omega, hS.1⟩
  have hLt' : ∀ x ∈ L, x.t ≤ 51000 ∧ 0 ≤ x.t := fun x hx => ⟨(hLt x hx).1, (hLt x hx).2.1⟩
  have hr := lastT_rng hLt'
  have k1 := aud_part hS' hLc (by omega) hLt' false false (v + lastT L) (by omega)
  rw [hf, fltT] at k1
  obtain ⟨y, hy⟩ : ∃ y, L[L.length - 1]? = some y := ⟨_, List.getElem?_eq_getElem (by omega)⟩
  have hlast : lastT L = y.t := by
    unfold lastT
    rw [List.getLast?_eq_getElem?, hy]
  have hyt := hLt' y (List.mem_of_getElem? hy)
  rw [hlast] at k1
  have g1 : (L.map encN)[L.length - 1]? = some (encN y) := by rw [List.getElem?_map, hy]; rfl
  have g2 : (L.map encN)[i]? = some (encN x) := by rw [List.getElem?_map, hix]; rfl
  have d0 : decide ((0 : Int) < ((L.length : Nat) : Int)) = true := decide_eq_true (by omega)
  have w0 : IntKind.i64.wrap (((L.length : Nat) : Int) - 1) = ((L.length - 1 : Nat) : Int) := by rw [wrap_i64 (by omega) (by omega)]; omega
  have w1 : IntKind.i64.wrap ((v : Int) + y.t) = (v : Int) + y.t := wrap_i64 (by omega) (by omega)
  have w2 : IntKind.i64.wrap (v : Int) = (v : Int) := wrap_i64 (by omega) (by omega)
  have d1 : decide (k = 0) = false := decide_eq_false (by omega)
  have d2 : decide (1 ≤ k) = true := decide_eq_true hk.1
  have d3 : decide (k ≤ 8) = true := decide_eq_true hk.2
  have d4 : decide ((0 : Int) ≤ ((i : Nat) : Int)) = true := decide_eq_true (by omega)
  have d5 : decide (((i : Nat) : Int) < ((L.length : Nat) : Int)) = true := decide_eq_true (by omega)
  refine ans_go 100 2 il5_eq (Nat.le_of_ble_eq_true rfl) ?_
  have d6 : decide (k = 0 ∧ ((i : Nat) : Int) = 0 ∧ x.s = 0 ∧ x.q = 0) = false := decide_eq_false (fun h => by have := h.1; omega)
  (simp only [il5c, go_sem, reduceIte, Nat.reduceEqDiff, Nat.reduceAdd, Int.reduceEq, Nat.reduceLeDiff, Nat.reduceLT, Nat.reduceBEq, Nat.reduceMul, Nat.reduceSub, Int.reduceToNat, Int.reduceLE, Int.reduceLT, Int.reduceAdd, Int.reduceSub, Int.reduceMul, Int.reduceNeg, Int.reduceDiv, Int.reduceMod, Int.reduceTDiv, Int.reduceTMod, Int.reducePow, works44_ans, c1, c2, k1, g1, g2, d0, d1, d2, d3, d4, d5, w0, w1, w2, encN, tcells_agg, hil] <;> (repeat' ((first | with_reducible refine brG_intro (fun hc => ?_) (fun hc => ?_) | with_reducible refine brC_intro (fun hc => ?_) (fun hc => ?_) | ((with_reducible refine c_opsD ?_); have hc := @List.length_nil Nat) | ((with_reducible refine c_opsT ?_); have hc := @List.length_nil Nat) | ((with_reducible refine and_crit ?_ ?_); rfl; have hc := @List.length_nil Nat) | ((with_reducible refine crit_done ?_); rfl) | ((with_reducible refine mkC_go (fun _ => ?_)); have hc := @List.length_nil Nat) | ((with_reducible refine mkL_go (fun _ => ?_)); have hc := @List.length_nil Nat)) <;> (try simp only [Bool.not_eq_true', Bool.not_eq_false', Bool.not_true, Bool.not_false] at hc) <;> (try simp only [hc, go_sem, reduceIte, Nat.reduceEqDiff, Nat.reduceAdd, Int.reduceEq, Nat.reduceLeDiff, Nat.reduceLT, Nat.reduceBEq, Nat.reduceMul, Nat.reduceSub, Int.reduceToNat, Int.reduceLE, Int.reduceLT, Int.reduceAdd, Int.reduceSub, Int.reduceMul, Int.reduceNeg, Int.reduceDiv, Int.reduceMod, Int.reduceTDiv, Int.reduceTMod, Int.reducePow, works44_ans, c1, c2, k1, g1, g2, d0, d1, d2, d3, d4, d5, w0, w1, w2, encN, tcells_agg, hil]))))
  all_goals (rename_i hc; exact absurd (of_decide_eq_true hc).1 (by omega))
end Go.Proofs.YthcaepnclhgkmaaDoor
