/- Arguments of the laws of chapter 11: vectors and descriptions of vectors, as lists of records. -/
import Derived.Test.YtboknhdkadcaeaaElFit
import Derived.Test.YtboknhdkadcaeaaElH
set_option linter.unusedSimpArgs false
set_option linter.unusedVariables false
namespace Go.Proofs.Ytboknhdkadcaeaa
open Go Go.Abs

theorem vectors_one {x : T} (f : FitE Try.prog 33 x) : ∃ a, x = encV a := by
  obtain ⟨c, rfl, g⟩ := fit_agg (ls := [.int .i64, .int .i64, .int .i64, .int .i64, .int .i64, .int .i64, .int .i64, .int .i64, .int .i64]) (by kernel_rfl) (by kernel_rfl) f
  obtain ⟨y0, q0, rfl, v0, g⟩ := leafs_cons g
  obtain ⟨y1, q1, rfl, v1, g⟩ := leafs_cons g
  obtain ⟨y2, q2, rfl, v2, g⟩ := leafs_cons g
  obtain ⟨y3, q3, rfl, v3, g⟩ := leafs_cons g
  obtain ⟨y4, q4, rfl, v4, g⟩ := leafs_cons g
  obtain ⟨y5, q5, rfl, v5, g⟩ := leafs_cons g
  obtain ⟨y6, q6, rfl, v6, g⟩ := leafs_cons g
  obtain ⟨y7, q7, rfl, v7, g⟩ := leafs_cons g
  obtain ⟨y8, q8, rfl, v8, g⟩ := leafs_cons g
  obtain rfl := leafs_nil g
  obtain ⟨n0, rfl, w0⟩ := v0
  obtain ⟨n1, rfl, w1⟩ := v1
  obtain ⟨n2, rfl, w2⟩ := v2
  obtain ⟨n3, rfl, w3⟩ := v3
  obtain ⟨n4, rfl, w4⟩ := v4
  obtain ⟨n5, rfl, w5⟩ := v5
  obtain ⟨n6, rfl, w6⟩ := v6
  obtain ⟨n7, rfl, w7⟩ := v7
  obtain ⟨n8, rfl, w8⟩ := v8
  exact ⟨⟨⟨n0, n1, n2, n3, n4, n5⟩, n6, n7, n8⟩, rfl⟩
theorem vectors {xs : List T} (h : ∀ y ∈ xs, FitE Try.prog 33 y) : ∃ l, xs = List.map encV l := list_enc (fun y hy => vectors_one (h y hy))
theorem wilds_one {x : T} (f : FitE Try.prog 86 x) : ∃ a, x = encW a ∧ okW a := by
  obtain ⟨c, rfl, g⟩ := fit_agg (ls := [.int .u8, .int .u16, .int .u8, .int .u8, .int .u8]) (by kernel_rfl) (by kernel_rfl) f
  obtain ⟨y0, q0, rfl, v0, g⟩ := leafs_cons g
  obtain ⟨y1, q1, rfl, v1, g⟩ := leafs_cons g
  obtain ⟨y2, q2, rfl, v2, g⟩ := leafs_cons g
  obtain ⟨y3, q3, rfl, v3, g⟩ := leafs_cons g
  obtain ⟨y4, q4, rfl, v4, g⟩ := leafs_cons g
  obtain rfl := leafs_nil g
  obtain ⟨n0, rfl, w0⟩ := v0
  obtain ⟨n1, rfl, w1⟩ := v1
  obtain ⟨n2, rfl, w2⟩ := v2
  obtain ⟨n3, rfl, w3⟩ := v3
  obtain ⟨n4, rfl, w4⟩ := v4
  exact ⟨⟨n0, n1, n2, n3, n4⟩, rfl, ⟨wf_u8 w0, wf_u16 w1, wf_u8 w2, wf_u8 w3, wf_u8 w4⟩⟩
theorem wilds {xs : List T} (h : ∀ y ∈ xs, FitE Try.prog 86 y) : ∃ l, xs = List.map encW l ∧ ∀ a ∈ l, okW a := list_enc' (fun y hy => wilds_one (h y hy))

end Go.Proofs.Ytboknhdkadcaeaa
