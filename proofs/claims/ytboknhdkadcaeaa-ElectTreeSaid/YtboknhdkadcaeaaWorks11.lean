/- The examples of chapter 11 run to true. The greater calls are theorems of their own; a table of their answers stands for them (so that no single proof is great). -/
import Derived.Test.YtboknhdkadcaeaaPol
set_option linter.unusedSimpArgs false
set_option linter.unusedVariables false
namespace Go.Proofs.Ytboknhdkadcaeaa
open Go Go.Abs

/-- One tree is another: whole numbers, structs and slices of such. -/
def k11WEq : Nat → T → T → Bool
  | 0, _, _ => false
  | _ + 1, .sc (.int k a), .sc (.int k' b) => decide (k = k') && decide (a = b)
  | n + 1, .agg xs, .agg ys => wEqs (k11WEq n) xs ys
  | n + 1, .sl c k xs, .sl c' k' ys => (decide (c = c') && decide (k = k')) && wEqs (k11WEq n) xs ys
  | _, _, _ => false
where
  wEqs (e : T → T → Bool) : List T → List T → Bool
  | [], [] => true
  | x :: xs, y :: ys => e x y && wEqs e xs ys
  | _, _ => false

theorem k11WEqs_eq {e : T → T → Bool} (he : ∀ x y, e x y = true → x = y) : ∀ xs ys, k11WEq.wEqs e xs ys = true → xs = ys := by
  intro xs
  induction xs with
  | nil => intro ys h; cases ys with
    | nil => rfl
    | cons y ys => simp [k11WEq.wEqs] at h
  | cons x xs ih => intro ys h; cases ys with
    | nil => simp [k11WEq.wEqs] at h
    | cons y ys =>
      simp only [k11WEq.wEqs, Bool.and_eq_true] at h
      rw [he x y h.1, ih ys h.2]
theorem k11WEq_eq : ∀ (n : Nat) (x y : T), k11WEq n x y = true → x = y := by
  intro n
  induction n with
  | zero => intro x y h; simp [k11WEq] at h
  | succ n ih =>
    intro x y h
    cases x with
    | sc v => cases y with
      | sc v' => cases v <;> cases v' <;> simp_all [k11WEq]
      | _ => cases v <;> simp [k11WEq] at h
    | agg xs => cases y with
      | agg ys => simp only [k11WEq] at h; rw [k11WEqs_eq ih _ _ h]
      | _ => simp [k11WEq] at h
    | sl c k xs => cases y with
      | sl c' k' ys =>
        simp only [k11WEq, Bool.and_eq_true, decide_eq_true_eq] at h
        rw [h.1.1, h.1.2, k11WEqs_eq ih _ _ h.2]
      | _ => simp [k11WEq] at h
    | _ => simp [k11WEq] at h

/-- An evaluation that takes the answers of some calls from a table. -/
def k11WTabK (P : Program) (pol : Pol) (n m : Nat) (L : List (Nat × List T × T)) : Oracle := fun f ts =>
  match L.find? (fun e => decide (e.1 = f) && k11WEq.wEqs (k11WEq 9) e.2.1 ts) with
  | some e => some e.2.2
  | none => Go.Abs.runN P pol n m f ts
theorem k11Ans {P : Program} {pol : Pol} {L : List (Nat × List T × T)} (hL : ∀ e ∈ L, ans P pol e.1 e.2.1 = some e.2.2) {n m d : Nat} {f : FuncId} {ts : List T} {r : T}
    (h : runTop P pol (k11WTabK P pol n m L) n d f ts = some r) : ans P pol f ts = some r := by
  have hK : LimK fromN (k11WTabK P pol n m L) (fun _ => ans P pol) := fun g us r' hr => ⟨0, fun _ _ => by
    unfold k11WTabK at hr
    split at hr
    · rename_i e he
      have h1 := List.mem_of_find?_eq_some he
      have h2 := List.find?_some he
      simp only [Bool.and_eq_true, decide_eq_true_eq] at h2
      rw [← h2.1, ← k11WEqs_eq (k11WEq_eq 9) _ _ h2.2]
      exact (hL e h1).trans hr
    · exact ans_of_run m hr⟩
  obtain ⟨i, hi⟩ := top_lim (P := P) (pol := pol) hK h
  exact ans_of_top (hi i (Nat.le_refl _))

def k11WJ (n : Int) : T := .sc (.int .i64 n)
def k11WM (p i : Int) : T := .agg [k11WJ p, k11WJ 0, k11WJ 0, k11WJ 0, k11WJ 0, k11WJ i]
def k11WS : T := .agg [.sl true 6 [k11WM 9 1, k11WM 5 2, k11WM 9 3], .sl true 2 [.agg [k11WJ 0, k11WJ 1], .agg [k11WJ 1, k11WJ 2], .agg [k11WJ 0, k11WJ 2]]]
def k11WV (p i s n l : Int) : T := .agg [k11WJ p, k11WJ 0, k11WJ 0, k11WJ 0, k11WJ 0, k11WJ i, k11WJ s, k11WJ n, k11WJ l]
def k11WV0 : T := .sl true 9 [k11WV 9 1 0 0 (-1), k11WV 5 2 0 1 (-1), k11WV 9 3 0 2 (-1)]
def k11WV1 : T := .sl true 9 [k11WV 5 2 1 1 0, k11WV 5 2 0 1 (-1), k11WV 5 2 1 1 1]
theorem k11Wn0 : ans Try.prog pol 39 [k11WS, k11WV0] = some k11WV1 := ans_of_run (n := 60) 10 (by kernel_rfl)
theorem k11Wn1 : ans Try.prog pol 39 [k11WS, k11WV1] = some k11WV1 := ans_of_run (n := 60) 10 (by kernel_rfl)
def k11WTabE : List (Nat × List T × T) := [(39, [k11WS, k11WV1], k11WV1), (39, [k11WS, k11WV0], k11WV1)]
theorem k11WTabE_ok : ∀ e ∈ k11WTabE, ans Try.prog pol e.1 e.2.1 = some e.2.2 := by
  intro e he
  simp only [k11WTabE, List.mem_cons, List.not_mem_nil, or_false] at he
  rcases he with rfl | rfl
  · exact k11Wn1
  · exact k11Wn0
theorem k11We : ans Try.prog pol 20 [k11WS] = some (.tup [k11WV1, k11WJ 0]) := k11Ans k11WTabE_ok (n := 60) (m := 10) (d := 10) (by kernel_rfl)
theorem k11Wr0 : ans Try.prog pol 24 [k11WS, k11WV1, k11WJ 0] = some (.tup [.sl false 1 [k11WJ 1, k11WJ 2], k11WJ 0]) := ans_of_run (n := 60) 10 (by kernel_rfl)
theorem k11Wr1 : ans Try.prog pol 24 [k11WS, k11WV1, k11WJ 1] = some (.tup [.sl false 1 [k11WJ 2, k11WJ 2], k11WJ 0]) := ans_of_run (n := 60) 10 (by kernel_rfl)
theorem k11Wr2 : ans Try.prog pol 24 [k11WS, k11WV1, k11WJ 2] = some (.tup [.sl false 1 [k11WJ 1, k11WJ 3], k11WJ 0]) := ans_of_run (n := 60) 10 (by kernel_rfl)
def k11WTab : List (Nat × List T × T) := [(20, [k11WS], .tup [k11WV1, k11WJ 0]), (24, [k11WS, k11WV1, k11WJ 0], .tup [.sl false 1 [k11WJ 1, k11WJ 2], k11WJ 0]), (24, [k11WS, k11WV1, k11WJ 1], .tup [.sl false 1 [k11WJ 2, k11WJ 2], k11WJ 0]),
  (24, [k11WS, k11WV1, k11WJ 2], .tup [.sl false 1 [k11WJ 1, k11WJ 3], k11WJ 0])]
theorem k11WTab_ok : ∀ e ∈ k11WTab, ans Try.prog pol e.1 e.2.1 = some e.2.2 := by
  intro e he
  simp only [k11WTab, List.mem_cons, List.not_mem_nil, or_false] at he
  rcases he with rfl | rfl | rfl | rfl
  · exact k11We
  · exact k11Wr0
  · exact k11Wr1
  · exact k11Wr2
theorem works_ans : ans Try.prog pol 11 [] = some (.sc (.bool true)) := k11Ans k11WTab_ok (n := 60) (m := 10) (d := 10) (by kernel_rfl)

end Go.Proofs.Ytboknhdkadcaeaa
