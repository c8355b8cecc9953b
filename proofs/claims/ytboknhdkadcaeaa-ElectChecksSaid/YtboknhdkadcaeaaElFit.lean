/- Arguments of the laws of chapter 11, as lists of records. -/
import Derived.Test.YtboknhdkadcaeaaElC
set_option linter.unusedSimpArgs false
set_option linter.unusedVariables false
namespace Go.Proofs.Ytboknhdkadcaeaa
open Go Go.Abs

theorem len_lt {n : Nat} (h : n ≤ maxLen) : n < 9223372036854775808 := Nat.lt_of_le_of_lt h (by decide)


theorem masters_one {x : T} (f : FitE Try.prog 31 x) : ∃ a, x = encMs a := by
  obtain ⟨c, rfl, g⟩ := fit_agg (ls := [.int .i64, .int .i64, .int .i64, .int .i64, .int .i64, .int .i64]) (by kernel_rfl) (by kernel_rfl) f
  obtain ⟨y0, q0, rfl, v0, g⟩ := leafs_cons g
  obtain ⟨y1, q1, rfl, v1, g⟩ := leafs_cons g
  obtain ⟨y2, q2, rfl, v2, g⟩ := leafs_cons g
  obtain ⟨y3, q3, rfl, v3, g⟩ := leafs_cons g
  obtain ⟨y4, q4, rfl, v4, g⟩ := leafs_cons g
  obtain ⟨y5, q5, rfl, v5, g⟩ := leafs_cons g
  obtain rfl := leafs_nil g
  obtain ⟨n0, rfl, w0⟩ := v0
  obtain ⟨n1, rfl, w1⟩ := v1
  obtain ⟨n2, rfl, w2⟩ := v2
  obtain ⟨n3, rfl, w3⟩ := v3
  obtain ⟨n4, rfl, w4⟩ := v4
  obtain ⟨n5, rfl, w5⟩ := v5
  exact ⟨⟨n0, n1, n2, n3, n4, n5⟩, rfl⟩
theorem masters {xs : List T} (h : ∀ y ∈ xs, FitE Try.prog 31 y) : ∃ l, xs = List.map encMs l := list_enc (fun y hy => masters_one (h y hy))
theorem links_one {x : T} (f : FitE Try.prog 62 x) : ∃ a, x = encLk a := by
  obtain ⟨c, rfl, g⟩ := fit_agg (ls := [.int .i64, .int .i64]) (by kernel_rfl) (by kernel_rfl) f
  obtain ⟨y0, q0, rfl, v0, g⟩ := leafs_cons g
  obtain ⟨y1, q1, rfl, v1, g⟩ := leafs_cons g
  obtain rfl := leafs_nil g
  obtain ⟨n0, rfl, w0⟩ := v0
  obtain ⟨n1, rfl, w1⟩ := v1
  exact ⟨(n0, n1), rfl⟩
theorem links {xs : List T} (h : ∀ y ∈ xs, FitE Try.prog 62 y) : ∃ l, xs = List.map encLk l := list_enc (fun y hy => links_one (h y hy))
theorem u8s_one {x : T} (f : FitE Try.prog 5 x) : ∃ a, x = U8 a ∧ (fun a : Int => 0 ≤ a ∧ a < 256) a := by
  obtain ⟨n0, rfl, w0⟩ := fit_leaf (l := .int .u8) (by kernel_rfl) (by kernel_rfl) f
  exact ⟨n0, rfl, wf_u8 w0⟩
theorem u8s {xs : List T} (h : ∀ y ∈ xs, FitE Try.prog 5 y) : ∃ l, xs = List.map U8 l ∧ ∀ a ∈ l, (fun a : Int => 0 ≤ a ∧ a < 256) a := list_enc' (fun y hy => u8s_one (h y hy))
theorem pairs_one {x : T} (f : FitE Try.prog 72 x) : ∃ a, x = encU a ∧ (fun x : Int × Int => (0 ≤ x.1 ∧ x.1 < 256) ∧ 0 ≤ x.2 ∧ x.2 < 256) a := by
  obtain ⟨c, rfl, g⟩ := fit_agg (ls := [.int .u8, .int .u8]) (by kernel_rfl) (by kernel_rfl) f
  obtain ⟨y0, q0, rfl, v0, g⟩ := leafs_cons g
  obtain ⟨y1, q1, rfl, v1, g⟩ := leafs_cons g
  obtain rfl := leafs_nil g
  obtain ⟨n0, rfl, w0⟩ := v0
  obtain ⟨n1, rfl, w1⟩ := v1
  exact ⟨(n0, n1), rfl, ⟨wf_u8 w0, wf_u8 w1⟩⟩
theorem pairs {xs : List T} (h : ∀ y ∈ xs, FitE Try.prog 72 y) : ∃ l, xs = List.map encU l ∧ ∀ a ∈ l, (fun x : Int × Int => (0 ≤ x.1 ∧ x.1 < 256) ∧ 0 ≤ x.2 ∧ x.2 < 256) a := list_enc' (fun y hy => pairs_one (h y hy))

end Go.Proofs.Ytboknhdkadcaeaa
