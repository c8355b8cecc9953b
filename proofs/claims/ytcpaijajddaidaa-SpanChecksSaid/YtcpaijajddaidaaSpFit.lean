/- Arguments of the laws of chapter 19, as lists of records. -/
import Derived.Test.YtcpaijajddaidaaSpB
set_option linter.unusedSimpArgs false
set_option linter.unusedVariables false
namespace Go.Proofs.Ytcpaijajddaidaa
open Go Go.Abs

theorem len_lt {n : Nat} (h : n ≤ maxLen) : n < 9223372036854775808 := Nat.lt_of_le_of_lt h (by decide)

theorem ints_one {x : T} (f : FitE Try.prog 3 x) : ∃ a, x = I a := by
  obtain ⟨n0, rfl, w0⟩ := fit_leaf (l := .int .i64) (by kernel_rfl) (by kernel_rfl) f
  exact ⟨n0, rfl⟩
theorem ints {xs : List T} (h : ∀ y ∈ xs, FitE Try.prog 3 y) : ∃ l, xs = List.map I l := list_enc (fun y hy => ints_one (h y hy))
theorem heards_one {x : T} (f : FitE Try.prog 51 x) : ∃ a, x = encH a := by
  obtain ⟨c, rfl, g⟩ := fit_agg (ls := [.bool, .int .i64, .int .i64, .int .i64, .int .i64, .int .i64, .int .i64, .int .i64]) (by kernel_rfl) (by kernel_rfl) f
  obtain ⟨y0, q0, rfl, v0, g⟩ := leafs_cons g
  obtain ⟨y1, q1, rfl, v1, g⟩ := leafs_cons g
  obtain ⟨y2, q2, rfl, v2, g⟩ := leafs_cons g
  obtain ⟨y3, q3, rfl, v3, g⟩ := leafs_cons g
  obtain ⟨y4, q4, rfl, v4, g⟩ := leafs_cons g
  obtain ⟨y5, q5, rfl, v5, g⟩ := leafs_cons g
  obtain ⟨y6, q6, rfl, v6, g⟩ := leafs_cons g
  obtain ⟨y7, q7, rfl, v7, g⟩ := leafs_cons g
  obtain rfl := leafs_nil g
  obtain ⟨b0, rfl⟩ := v0
  obtain ⟨n1, rfl, w1⟩ := v1
  obtain ⟨n2, rfl, w2⟩ := v2
  obtain ⟨n3, rfl, w3⟩ := v3
  obtain ⟨n4, rfl, w4⟩ := v4
  obtain ⟨n5, rfl, w5⟩ := v5
  obtain ⟨n6, rfl, w6⟩ := v6
  obtain ⟨n7, rfl, w7⟩ := v7
  exact ⟨⟨b0, n1, n2, n3, n4, n5, n6, n7⟩, rfl⟩
theorem heards {xs : List T} (h : ∀ y ∈ xs, FitE Try.prog 51 y) : ∃ l, xs = List.map encH l := list_enc (fun y hy => heards_one (h y hy))

end Go.Proofs.Ytcpaijajddaidaa
