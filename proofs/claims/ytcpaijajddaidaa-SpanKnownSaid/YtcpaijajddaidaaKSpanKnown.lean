/- SpanKnown runs to true. The examples of wakes are a theorem of their own; a table with their answer stands for the call (so that no single proof is great). -/
import Derived.Test.YtcpaijajddaidaaPol
set_option linter.unusedSimpArgs false
set_option linter.unusedVariables false
namespace Go.Proofs.Ytcpaijajddaidaa
open Go Go.Abs

/-- One tree is another: whole numbers, structs and slices of such. -/
def k19WEq : Nat → T → T → Bool
  | 0, _, _ => false
  | _ + 1, .sc (.int k a), .sc (.int k' b) => decide (k = k') && decide (a = b)
  | n + 1, .agg xs, .agg ys => wEqs (k19WEq n) xs ys
  | n + 1, .sl c k xs, .sl c' k' ys => (decide (c = c') && decide (k = k')) && wEqs (k19WEq n) xs ys
  | _, _, _ => false
where
  wEqs (e : T → T → Bool) : List T → List T → Bool
  | [], [] => true
  | x :: xs, y :: ys => e x y && wEqs e xs ys
  | _, _ => false

theorem k19WEqs_eq {e : T → T → Bool} (he : ∀ x y, e x y = true → x = y) : ∀ xs ys, k19WEq.wEqs e xs ys = true → xs = ys := by
  intro xs
  induction xs with
  | nil => intro ys h; cases ys with
    | nil => rfl
    | cons y ys => simp [k19WEq.wEqs] at h
  | cons x xs ih => intro ys h; cases ys with
    | nil => simp [k19WEq.wEqs] at h
    | cons y ys =>
      simp only [k19WEq.wEqs, Bool.and_eq_true] at h
      rw [he x y h.1, ih ys h.2]
theorem k19WEq_eq : ∀ (n : Nat) (x y : T), k19WEq n x y = true → x = y := by
  intro n
  induction n with
  | zero => intro x y h; simp [k19WEq] at h
  | succ n ih =>
    intro x y h
    cases x with
    | sc v => cases y with
      | sc v' => cases v <;> cases v' <;> simp_all [k19WEq]
      | _ => cases v <;> simp [k19WEq] at h
    | agg xs => cases y with
      | agg ys => simp only [k19WEq] at h; rw [k19WEqs_eq ih _ _ h]
      | _ => simp [k19WEq] at h
    | sl c k xs => cases y with
      | sl c' k' ys =>
        simp only [k19WEq, Bool.and_eq_true, decide_eq_true_eq] at h
        rw [h.1.1, h.1.2, k19WEqs_eq ih _ _ h.2]
      | _ => simp [k19WEq] at h
    | _ => simp [k19WEq] at h

/-- An evaluation that takes the answers of some calls from a table. -/
def k19WTabK (P : Program) (pol : Pol) (n m : Nat) (L : List (Nat × List T × T)) : Oracle := fun f ts =>
  match L.find? (fun e => decide (e.1 = f) && k19WEq.wEqs (k19WEq 9) e.2.1 ts) with
  | some e => some e.2.2
  | none => Go.Abs.runN P pol n m f ts
theorem k19Ans {P : Program} {pol : Pol} {L : List (Nat × List T × T)} (hL : ∀ e ∈ L, ans P pol e.1 e.2.1 = some e.2.2) {n m d : Nat} {f : FuncId} {ts : List T} {r : T}
    (h : runTop P pol (k19WTabK P pol n m L) n d f ts = some r) : ans P pol f ts = some r := by
  have hK : LimK fromN (k19WTabK P pol n m L) (fun _ => ans P pol) := fun g us r' hr => ⟨0, fun _ _ => by
    unfold k19WTabK at hr
    split at hr
    · rename_i e he
      have h1 := List.mem_of_find?_eq_some he
      have h2 := List.find?_some he
      simp only [Bool.and_eq_true, decide_eq_true_eq] at h2
      rw [← h2.1, ← k19WEqs_eq (k19WEq_eq 9) _ _ h2.2]
      exact (hL e h1).trans hr
    · exact ans_of_run m hr⟩
  obtain ⟨i, hi⟩ := top_lim (P := P) (pol := pol) hK h
  exact ans_of_top (hi i (Nat.le_refl _))

theorem k19Wakes : ans Try.prog pol 11 [] = some (.sc (.bool true)) := ans_of_run (n := 60) 10 (by kernel_rfl)
def k19Tab : List (Nat × List T × T) := [(11, [], .sc (.bool true))]
theorem k19Tab_ok : ∀ e ∈ k19Tab, ans Try.prog pol e.1 e.2.1 = some e.2.2 := by
  intro e he
  simp only [k19Tab, List.mem_cons, List.not_mem_nil, or_false] at he
  rcases he with rfl
  exact k19Wakes
theorem spanKnown_ans : ans Try.prog pol 5 [] = some (.sc (.bool true)) := k19Ans k19Tab_ok (n := 200) (m := 14) (d := 14) (by kernel_rfl)

end Go.Proofs.Ytcpaijajddaidaa
