/- Events, as lists of records. -/
import Derived.Test.YtcpaijajddaidaaSpFit
import Derived.Test.YtcpaijajddaidaaSpK
set_option linter.unusedSimpArgs false
set_option linter.unusedVariables false
namespace Go.Proofs.Ytcpaijajddaidaa
open Go Go.Abs

theorem events_one {x : T} (f : FitE Try.prog 92 x) : ∃ a, x = encE a ∧ okE a := by
  obtain ⟨c, rfl, g⟩ := fit_agg (ls := [.bool, .int .u8, .int .i64, .int .i64, .int .i64, .int .i64, .int .i64, .int .i64, .int .i64]) (by kernel_rfl) (by kernel_rfl) f
  obtain ⟨y0, q0, rfl, v0, g⟩ := leafs_cons g
  obtain ⟨y1, q1, rfl, v1, g⟩ := leafs_cons g
  obtain ⟨y2, q2, rfl, v2, g⟩ := leafs_cons g
  obtain ⟨y3, q3, rfl, v3, g⟩ := leafs_cons g
  obtain ⟨y4, q4, rfl, v4, g⟩ := leafs_cons g
  obtain ⟨y5, q5, rfl, v5, g⟩ := leafs_cons g
  obtain ⟨y6, q6, rfl, v6, g⟩ := leafs_cons g
  obtain ⟨y7, q7, rfl, v7, g⟩ := leafs_cons g
  obtain ⟨y8, q8, rfl, v8, g⟩ := leafs_cons g
  obtain rfl := leafs_nil g
  obtain ⟨b0, rfl⟩ := v0
  obtain ⟨n1, rfl, w1⟩ := v1
  obtain ⟨n2, rfl, w2⟩ := v2
  obtain ⟨n3, rfl, w3⟩ := v3
  obtain ⟨n4, rfl, w4⟩ := v4
  obtain ⟨n5, rfl, w5⟩ := v5
  obtain ⟨n6, rfl, w6⟩ := v6
  obtain ⟨n7, rfl, w7⟩ := v7
  obtain ⟨n8, rfl, w8⟩ := v8
  exact ⟨⟨b0, n1, ⟨true, n2, n3, n4, n5, n6, n7, n8⟩⟩, rfl, wf_u8 w1⟩
theorem events {xs : List T} (h : ∀ y ∈ xs, FitE Try.prog 92 y) : ∃ l, xs = List.map encE l ∧ ∀ a ∈ l, okE a := list_enc' (fun y hy => events_one (h y hy))

end Go.Proofs.Ytcpaijajddaidaa
