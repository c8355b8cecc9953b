/- The examples of chapter 11 run to true. The greater calls are theorems of their own; a table of their answers stands for them (so that no single proof is great). -/
import Derived.Test.YtboknhdkadcaeaaPol
set_option linter.unusedSimpArgs false
set_option linter.unusedVariables false
namespace Go.Proofs.Ytboknhdkadcaeaa
open Go Go.Abs

/-- One tree is another: whole numbers, structs and slices of such. -/
def wEq : Nat → T → T → Bool
  | 0, _, _ => false
  | _ + 1, .sc (.int k a), .sc (.int k' b) => decide (k = k') && decide (a = b)
  | n + 1, .agg xs, .agg ys => wEqs (wEq n) xs ys
  | n + 1, .sl c k xs, .sl c' k' ys => (decide (c = c') && decide (k = k')) && wEqs (wEq n) xs ys
  | _, _, _ => false
where
  wEqs (e : T → T → Bool) : List T → List T → Bool
  | [], [] => true
  | x :: xs, y :: ys => e x y && wEqs e xs ys
  | _, _ => false

theorem wEqs_eq {e : T → T → Bool} (he : ∀ x y, e x y = true → x = y) : ∀ xs ys, wEq.wEqs e xs ys = true → xs = ys := by
  intro xs
  induction xs with
  | nil => intro ys h; cases ys with
    | nil => rfl
    | cons y ys => simp [wEq.wEqs] at h
  | cons x xs ih => intro ys h; cases ys with
    | nil => simp [wEq.wEqs] at h
    | cons y ys =>
      simp only [wEq.wEqs, Bool.and_eq_true] at h
      rw [he x y h.1, ih ys h.2]
theorem wEq_eq : ∀ (n : Nat) (x y : T), wEq n x y = true → x = y := by
  intro n
  induction n with
  | zero => intro x y h; simp [wEq] at h
  | succ n ih =>
    intro x y h
    cases x with
    | sc v => cases y with
      | sc v' => cases v <;> cases v' <;> simp_all [wEq]
      | _ => cases v <;> simp [wEq] at h
    | agg xs => cases y with
      | agg ys => simp only [wEq] at h; rw [wEqs_eq ih _ _ h]
      | _ => simp [wEq] at h
    | sl c k xs => cases y with
      | sl c' k' ys =>
        simp only [wEq, Bool.and_eq_true, decide_eq_true_eq] at h
        rw [h.1.1, h.1.2, wEqs_eq ih _ _ h.2]
      | _ => simp [wEq] at h
    | _ => simp [wEq] at h

/-- An evaluation that takes the answers of some calls from a table. -/
def wTabK (P : Program) (pol : Pol) (n m : Nat) (L : List (Nat × List T × T)) : Oracle := fun f ts =>
  match L.find? (fun e => decide (e.1 = f) && wEq.wEqs (wEq 9) e.2.1 ts) with
  | some e => some e.2.2
  | none => Go.Abs.runN P pol n m f ts
theorem ans_of_tab {P : Program} {pol : Pol} {L : List (Nat × List T × T)} (hL : ∀ e ∈ L, ans P pol e.1 e.2.1 = some e.2.2) {n m d : Nat} {f : FuncId} {ts : List T} {r : T}
    (h : runTop P pol (wTabK P pol n m L) n d f ts = some r) : ans P pol f ts = some r := by
  have hK : LimK fromN (wTabK P pol n m L) (fun _ => ans P pol) := fun g us r' hr => ⟨0, fun _ _ => by
    unfold wTabK at hr
    split at hr
    · rename_i e he
      have h1 := List.mem_of_find?_eq_some he
      have h2 := List.find?_some he
      simp only [Bool.and_eq_true, decide_eq_true_eq] at h2
      rw [← h2.1, ← wEqs_eq (wEq_eq 9) _ _ h2.2]
      exact (hL e h1).trans hr
    · exact ans_of_run m hr⟩
  obtain ⟨i, hi⟩ := top_lim (P := P) (pol := pol) hK h
  exact ans_of_top (hi i (Nat.le_refl _))

def wJ (n : Int) : T := .sc (.int .i64 n)
def wM (p i : Int) : T := .agg [wJ p, wJ 0, wJ 0, wJ 0, wJ 0, wJ i]
def wS : T := .agg [.sl true 6 [wM 9 1, wM 5 2, wM 9 3], .sl true 2 [.agg [wJ 0, wJ 1], .agg [wJ 1, wJ 2], .agg [wJ 0, wJ 2]]]
def wV (p i s n l : Int) : T := .agg [wJ p, wJ 0, wJ 0, wJ 0, wJ 0, wJ i, wJ s, wJ n, wJ l]
def wV0 : T := .sl true 9 [wV 9 1 0 0 (-1), wV 5 2 0 1 (-1), wV 9 3 0 2 (-1)]
def wV1 : T := .sl true 9 [wV 5 2 1 1 0, wV 5 2 0 1 (-1), wV 5 2 1 1 1]
theorem wn0 : ans Try.prog pol 39 [wS, wV0] = some wV1 := ans_of_run (n := 60) 10 (by kernel_rfl)
theorem wn1 : ans Try.prog pol 39 [wS, wV1] = some wV1 := ans_of_run (n := 60) 10 (by kernel_rfl)
def wTabE : List (Nat × List T × T) := [(39, [wS, wV1], wV1), (39, [wS, wV0], wV1)]
theorem wTabE_ok : ∀ e ∈ wTabE, ans Try.prog pol e.1 e.2.1 = some e.2.2 := by
  intro e he
  simp only [wTabE, List.mem_cons, List.not_mem_nil, or_false] at he
  rcases he with rfl | rfl
  · exact wn1
  · exact wn0
theorem we : ans Try.prog pol 20 [wS] = some (.tup [wV1, wJ 0]) := ans_of_tab wTabE_ok (n := 60) (m := 10) (d := 10) (by kernel_rfl)
theorem wr0 : ans Try.prog pol 24 [wS, wV1, wJ 0] = some (.tup [.sl false 1 [wJ 1, wJ 2], wJ 0]) := ans_of_run (n := 60) 10 (by kernel_rfl)
theorem wr1 : ans Try.prog pol 24 [wS, wV1, wJ 1] = some (.tup [.sl false 1 [wJ 2, wJ 2], wJ 0]) := ans_of_run (n := 60) 10 (by kernel_rfl)
theorem wr2 : ans Try.prog pol 24 [wS, wV1, wJ 2] = some (.tup [.sl false 1 [wJ 1, wJ 3], wJ 0]) := ans_of_run (n := 60) 10 (by kernel_rfl)
def wTab : List (Nat × List T × T) := [(20, [wS], .tup [wV1, wJ 0]), (24, [wS, wV1, wJ 0], .tup [.sl false 1 [wJ 1, wJ 2], wJ 0]), (24, [wS, wV1, wJ 1], .tup [.sl false 1 [wJ 2, wJ 2], wJ 0]),
  (24, [wS, wV1, wJ 2], .tup [.sl false 1 [wJ 1, wJ 3], wJ 0])]
theorem wTab_ok : ∀ e ∈ wTab, ans Try.prog pol e.1 e.2.1 = some e.2.2 := by
  intro e he
  simp only [wTab, List.mem_cons, List.not_mem_nil, or_false] at he
  rcases he with rfl | rfl | rfl | rfl
  · exact we
  · exact wr0
  · exact wr1
  · exact wr2
theorem works_ans : ans Try.prog pol 11 [] = some (.sc (.bool true)) := ans_of_tab wTab_ok (n := 60) (m := 10) (d := 10) (by kernel_rfl)

end Go.Proofs.Ytboknhdkadcaeaa
