/- The examples of chapter 44 hold. Each of them is a theorem of its own; a table of their answers stands for the calls (so that no single proof is great). -/
import Derived.Test.YthcaepnclhgkmaaDoorPol
set_option linter.unusedSimpArgs false
set_option linter.unusedVariables false
namespace Go.Proofs.YthcaepnclhgkmaaDoor
open Go Go.Abs

/-- One tree is another: whole numbers, structs and slices of such. -/
def wEq : Nat → T → T → Bool
  | 0, _, _ => false
  | _ + 1, .sc (.int k a), .sc (.int k' b) => decide (k = k') && decide (a = b)
  | n + 1, .agg xs, .agg ys => wEqs (wEq n) xs ys
  | n + 1, .sl c k xs, .sl c' k' ys => (decide (c = c') && decide (k = k')) && wEqs (wEq n) xs ys
  | _, _, _ => false
where
  wEqs (e : T → T → Bool) : List T → List T → Bool
  | [], [] => true
  | x :: xs, y :: ys => e x y && wEqs e xs ys
  | _, _ => false

theorem wEqs_eq {e : T → T → Bool} (he : ∀ x y, e x y = true → x = y) : ∀ xs ys, wEq.wEqs e xs ys = true → xs = ys := by
  intro xs
  induction xs with
  | nil => intro ys h; cases ys with
    | nil => rfl
    | cons y ys => simp [wEq.wEqs] at h
  | cons x xs ih => intro ys h; cases ys with
    | nil => simp [wEq.wEqs] at h
    | cons y ys =>
      simp only [wEq.wEqs, Bool.and_eq_true] at h
      rw [he x y h.1, ih ys h.2]
theorem wEq_eq : ∀ (n : Nat) (x y : T), wEq n x y = true → x = y := by
  intro n
  induction n with
  | zero => intro x y h; simp [wEq] at h
  | succ n ih =>
    intro x y h
    cases x with
    | sc v => cases y with
      | sc v' => cases v <;> cases v' <;> simp_all [wEq]
      | _ => cases v <;> simp [wEq] at h
    | agg xs => cases y with
      | agg ys => simp only [wEq] at h; rw [wEqs_eq ih _ _ h]
      | _ => simp [wEq] at h
    | sl c k xs => cases y with
      | sl c' k' ys =>
        simp only [wEq, Bool.and_eq_true, decide_eq_true_eq] at h
        rw [h.1.1, h.1.2, wEqs_eq ih _ _ h.2]
      | _ => simp [wEq] at h
    | _ => simp [wEq] at h

/-- An evaluation that takes the answers of some calls from a table. -/
def wTabK (P : Program) (pol : Pol) (n m : Nat) (L : List (Nat × List T × T)) : Oracle := fun f ts =>
  match L.find? (fun e => decide (e.1 = f) && wEq.wEqs (wEq 9) e.2.1 ts) with
  | some e => some e.2.2
  | none => Go.Abs.runN P pol n m f ts
theorem ans_of_tab {P : Program} {pol : Pol} {L : List (Nat × List T × T)} (hL : ∀ e ∈ L, ans P pol e.1 e.2.1 = some e.2.2) {n m d : Nat} {f : FuncId} {ts : List T} {r : T}
    (hp : primT pol f ts = none) (h : runTop P pol (wTabK P pol n m L) n d f ts = some r) : ans P pol f ts = some r := by
  have hK : LimK fromN (wTabK P pol n m L) (fun _ => ans P pol) := fun g us r' hr => ⟨0, fun _ _ => by
    unfold wTabK at hr
    split at hr
    · rename_i e he
      have h1 := List.mem_of_find?_eq_some he
      have h2 := List.find?_some he
      simp only [Bool.and_eq_true, decide_eq_true_eq] at h2
      rw [← h2.1, ← wEqs_eq (wEq_eq 9) _ _ h2.2]
      exact (hL e h1).trans hr
    · exact ans_of_run m hr⟩
  obtain ⟨i, hi⟩ := top_lim (P := P) (pol := pol) hK h
  exact ans_of_top hp (hi i (Nat.le_refl _))

def wJ (n : Int) : T := .sc (.int .i64 n)
def wF (a b c d : Int) : T := .agg [wJ a, wJ b, wJ c, wJ d]
theorem wf0 : ans Tryd.prog pol 23 [wJ 50, wF 0 0 0 0, .sl true 4 [wF 1 1 0 0, wF 2 1 0 10]] = some (.sc (.bool true)) := ans_of_run (n := 100) 11 (by kernel_rfl)
theorem wf1 : ans Tryd.prog pol 23 [wJ 50, wF 5 1 1 0, .sl true 4 [wF 1 1 0 0, wF 2 1 0 4]] = some (.sc (.bool true)) := ans_of_run (n := 100) 11 (by kernel_rfl)
theorem wf2 : ans Tryd.prog pol 23 [wJ 50, wF 7 3 1 0, .sl true 4 [wF 1 1 0 0, wF 1 1 1 1, wF 2 1 1 10, wF 2 1 0 12]] = some (.sc (.bool true)) := ans_of_run (n := 100) 11 (by kernel_rfl)
theorem wf3 : ans Tryd.prog pol 23 [wJ 50, wF 4 3 2 8, .sl true 4 [wF 1 2 7 0, wF 1 2 8 30, wF 2 2 8 31, wF 2 2 8 31]] = some (.sc (.bool true)) := ans_of_run (n := 100) 11 (by kernel_rfl)
theorem wf4 : ans Tryd.prog pol 23 [wJ 19, wF 0 0 0 0, .sl true 4 [wF 1 1 3 0, wF 1 2 4 0]] = some (.sc (.bool true)) := ans_of_run (n := 100) 11 (by kernel_rfl)
theorem wf5 : ans Tryd.prog pol 23 [wJ 20, wF 8 0 1 3, .sl true 4 [wF 1 1 3 0, wF 1 2 4 0]] = some (.sc (.bool true)) := ans_of_run (n := 100) 11 (by kernel_rfl)
theorem wf6 : ans Tryd.prog pol 23 [wJ 0, wF 1 0 3 0, .sl true 4 [wF 1 3 0 0, wF 2 1 0 0]] = some (.sc (.bool true)) := ans_of_run (n := 100) 11 (by kernel_rfl)
def wTab : List (Nat × List T × T) := [(23, [wJ 50, wF 0 0 0 0, .sl true 4 [wF 1 1 0 0, wF 2 1 0 10]], .sc (.bool true)),
  (23, [wJ 50, wF 5 1 1 0, .sl true 4 [wF 1 1 0 0, wF 2 1 0 4]], .sc (.bool true)),
  (23, [wJ 50, wF 7 3 1 0, .sl true 4 [wF 1 1 0 0, wF 1 1 1 1, wF 2 1 1 10, wF 2 1 0 12]], .sc (.bool true)),
  (23, [wJ 50, wF 4 3 2 8, .sl true 4 [wF 1 2 7 0, wF 1 2 8 30, wF 2 2 8 31, wF 2 2 8 31]], .sc (.bool true)),
  (23, [wJ 19, wF 0 0 0 0, .sl true 4 [wF 1 1 3 0, wF 1 2 4 0]], .sc (.bool true)),
  (23, [wJ 20, wF 8 0 1 3, .sl true 4 [wF 1 1 3 0, wF 1 2 4 0]], .sc (.bool true)),
  (23, [wJ 0, wF 1 0 3 0, .sl true 4 [wF 1 3 0 0, wF 2 1 0 0]], .sc (.bool true))]
theorem wTab_ok : ∀ e ∈ wTab, ans Tryd.prog pol e.1 e.2.1 = some e.2.2 := by
  intro e he
  simp only [wTab, List.mem_cons, List.not_mem_nil, or_false] at he
  rcases he with rfl | rfl | rfl | rfl | rfl | rfl | rfl
  · exact wf0
  · exact wf1
  · exact wf2
  · exact wf3
  · exact wf4
  · exact wf5
  · exact wf6
theorem works44_ans : ans Tryd.prog pol 9 [] = some (.sc (.bool true)) := ans_of_tab wTab_ok (n := 100) (m := 11) (d := 11) (by kernel_rfl) (by kernel_rfl)

end Go.Proofs.YthcaepnclhgkmaaDoor
