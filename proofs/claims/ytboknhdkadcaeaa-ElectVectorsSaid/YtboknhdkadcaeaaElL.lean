/- Drafts are valid networks; the law ElectSettles. -/
import Derived.Test.YtboknhdkadcaeaaElK
import Derived.Test.YtboknhdkadcaeaaWorks11
namespace Go.Proofs.Ytboknhdkadcaeaa
open Go Go.Abs
set_option linter.unusedSimpArgs false
set_option linter.unusedVariables false
set_option maxRecDepth 100000
set_option maxHeartbeats 4000000

theorem foldC_mk {α : Type} {p : Nat → α → Bool} : ∀ {l : List α} {i : Nat}, (∀ k x, l[k]? = some x → p (i + k) x = true) → foldC (fun i x (_ : Unit) => if p i x then Ctl.go () else Ctl.out false) (fun _ => true) i l () = true := by
  intro l
  induction l with
  | nil => intro i _; rfl
  | cons y l ih =>
    intro i h
    have h0 := h 0 y rfl
    rw [foldC_go (s' := ()) (by simp at h0; simp [h0])]
    exact ih (fun k x hk => by have := h (k + 1) x (by simpa using hk); rw [← this]; congr 1; omega)

theorem dM_id (rev : Bool) (rk : List Int) (i : Nat) : (dM rev rk i).id = if rev then 100 - (i : Int) else (i : Int) + 1 := by
  unfold dM; cases rk[i]? <;> rfl
theorem dM_ok {rev : Bool} {rk : List Int} (hrk : ∀ x ∈ rk, 0 ≤ x ∧ x < 256) {i : Nat} (hi : i < 12) : okM (dM rev rk i) := by
  unfold dM
  cases h : rk[i]? with
  | none => cases rev <;> simp only [okM] <;> simp <;> omega
  | some r =>
    have := hrk r (List.mem_of_getElem? h)
    cases rev <;> simp only [okM] <;> simp <;> omega
theorem dLs_spec (n : Nat) (hn : 0 < n) (ls : List (Int × Int)) : (dLs n ls).length ≤ 24 ∧ ∀ l ∈ dLs n ls, goodL n l = true := by
  have key : ∀ (r : List (Int × Int)) (i : Nat) (o : List (Int × Int)), (o.length ≤ 24 ∧ ∀ l ∈ o, goodL n l = true) →
      (foldC (fun _ x o => if o.length < 24 then Ctl.go (if x.1 % (n : Int) = x.2 % (n : Int) then o else o ++ [(x.1 % (n : Int), x.2 % (n : Int))]) else Ctl.out o) id i r o).length ≤ 24 ∧
      ∀ l ∈ foldC (fun _ x o => if o.length < 24 then Ctl.go (if x.1 % (n : Int) = x.2 % (n : Int) then o else o ++ [(x.1 % (n : Int), x.2 % (n : Int))]) else Ctl.out o) id i r o, goodL n l = true := by
    intro r
    induction r with
    | nil => intro i o h; exact h
    | cons x r ih =>
      intro i o h
      by_cases h24 : o.length < 24
      · rw [foldC_go (by rw [if_pos h24])]
        refine ih _ _ ?_
        by_cases q : x.1 % (n : Int) = x.2 % (n : Int)
        · rw [if_pos q]; exact h
        · rw [if_neg q]
          refine ⟨by simp; omega, fun l hl => ?_⟩
          rw [List.mem_append] at hl
          rcases hl with hl | hl
          · exact h.2 l hl
          · simp only [List.mem_singleton] at hl
            subst hl
            have := Int.emod_nonneg x.1 (show (n : Int) ≠ 0 by omega)
            have := Int.emod_nonneg x.2 (show (n : Int) ≠ 0 by omega)
            have := Int.emod_lt_of_pos x.1 (show 0 < (n : Int) by omega)
            have := Int.emod_lt_of_pos x.2 (show 0 < (n : Int) by omega)
            exact decide_eq_true ⟨⟨by assumption, by assumption⟩, ⟨by assumption, by assumption⟩, q⟩
      · rw [foldC_out (by rw [if_neg h24])]; exact h
  exact key ls 0 [] ⟨by simp, fun l h => by simp at h⟩
theorem draft_ok {nd : Int} {rk : List Int} {ls : List (Int × Int)} {rev : Bool} (hnd : 0 ≤ nd) (hrk : ∀ x ∈ rk, 0 ≤ x ∧ x < 256) : okS (dMs rev rk (1 + nd % 12).toNat) (dLs (1 + nd % 12) ls) = true := by
  obtain ⟨n, hn⟩ := Int.eq_ofNat_of_zero_le (show 0 ≤ 1 + nd % 12 by omega)
  rw [hn, Int.toNat_natCast]
  have hb : 1 ≤ n ∧ n ≤ 12 := by omega
  have hl : (dMs rev rk n).length = n := by simp [dMs]
  obtain ⟨l1, l2⟩ := dLs_spec n (by omega) ls
  rw [okS, hl, decide_eq_true ⟨hb.1, hb.2, l1⟩, Bool.true_and, Bool.and_eq_true, List.all_eq_true]
  refine ⟨?_, l2⟩
  refine foldC_mk ?_
  intro k m hk
  simp only [dMs, List.getElem?_map] at hk
  have hkn : k < n := by
    apply Decidable.byContradiction
    intro h
    rw [List.getElem?_eq_none (by simp; omega)] at hk
    simp at hk
  rw [List.getElem?_range hkn] at hk
  simp only [Option.map_some, Option.some.injEq] at hk
  subst hk
  rw [Nat.zero_add, goodM, Bool.and_eq_true]
  refine ⟨decide_eq_true (dM_ok hrk (by omega)), ?_⟩
  rw [fresh, List.all_eq_true]
  intro p hp
  obtain ⟨j, hj⟩ := List.mem_iff_getElem?.1 hp
  have hjk : j < k := by
    have := (List.getElem?_eq_some_iff.1 hj).1
    simp at this; omega
  rw [List.getElem?_take_of_lt hjk] at hj
  simp only [dMs, List.getElem?_map] at hj
  rw [List.getElem?_range (by omega)] at hj
  simp only [Option.map_some, Option.some.injEq] at hj
  subst hj
  rw [dM_id, dM_id]
  cases rev <;> simp <;> omega

/-- The row of a network. -/
abbrev spH (ms : List Ms) (lk : List (Int × Int)) : AObj := .row 2 [.t (.agg [.sl false 6 (ms.map encMs), .sl false 2 (lk.map encLk)])] 1

end Go.Proofs.Ytboknhdkadcaeaa
