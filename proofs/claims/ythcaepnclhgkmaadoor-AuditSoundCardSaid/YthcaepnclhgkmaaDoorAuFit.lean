/- The trees of the laws' arguments. -/
import Derived.Test.YthcaepnclhgkmaaDoorAuB
import Derived.Test.YthcaepnclhgkmaaDoorAbsWf
set_option linter.unusedSimpArgs false
set_option linter.unusedVariables false
namespace Go.Proofs.YthcaepnclhgkmaaDoor
open Go Go.Abs Go.RowKit
theorem len_lt {n : Nat} (h : n ≤ maxLen) : n < 9223372036854775808 := Nat.lt_of_le_of_lt h (by decide)
theorem rulesF_one {x : T} (f : FitE Tryd.prog 55 x) : ∃ a, x = encR a := by
  obtain ⟨c, rfl, g⟩ := fit_agg (ls := [.int .i64, .int .i64, .int .i64, .bool]) (by kernel_rfl) (by kernel_rfl) f
  obtain ⟨y0, q0, rfl, v0, g⟩ := leafs_cons g
  obtain ⟨y1, q1, rfl, v1, g⟩ := leafs_cons g
  obtain ⟨y2, q2, rfl, v2, g⟩ := leafs_cons g
  obtain ⟨y3, q3, rfl, v3, g⟩ := leafs_cons g
  obtain rfl := leafs_nil g
  obtain ⟨n0, rfl, w0⟩ := v0
  obtain ⟨n1, rfl, w1⟩ := v1
  obtain ⟨n2, rfl, w2⟩ := v2
  obtain ⟨b3, rfl⟩ := v3
  exact ⟨⟨n0, n1, n2, b3⟩, rfl⟩
theorem rulesF {xs : List T} (h : ∀ y ∈ xs, FitE Tryd.prog 55 y) : ∃ l, xs = List.map encR l := list_enc (fun y hy => rulesF_one (h y hy))
theorem notesF_one {x : T} (f : FitE Tryd.prog 30 x) : ∃ a, x = encN a := by
  obtain ⟨c, rfl, g⟩ := fit_agg (ls := [.int .i64, .int .i64, .int .i64, .int .i64]) (by kernel_rfl) (by kernel_rfl) f
  obtain ⟨y0, q0, rfl, v0, g⟩ := leafs_cons g
  obtain ⟨y1, q1, rfl, v1, g⟩ := leafs_cons g
  obtain ⟨y2, q2, rfl, v2, g⟩ := leafs_cons g
  obtain ⟨y3, q3, rfl, v3, g⟩ := leafs_cons g
  obtain rfl := leafs_nil g
  obtain ⟨n0, rfl, w0⟩ := v0
  obtain ⟨n1, rfl, w1⟩ := v1
  obtain ⟨n2, rfl, w2⟩ := v2
  obtain ⟨n3, rfl, w3⟩ := v3
  exact ⟨⟨n0, n1, n2, n3⟩, rfl⟩
theorem notesF {xs : List T} (h : ∀ y ∈ xs, FitE Tryd.prog 30 y) : ∃ l, xs = List.map encN l := list_enc (fun y hy => notesF_one (h y hy))
theorem wishF_one {x : T} (f : FitE Tryd.prog 70 x) : ∃ a, x = encW a ∧ okW a := by
  obtain ⟨c, rfl, g⟩ := fit_agg (ls := [.int .u8, .int .u8, .bool]) (by kernel_rfl) (by kernel_rfl) f
  obtain ⟨y0, q0, rfl, v0, g⟩ := leafs_cons g
  obtain ⟨y1, q1, rfl, v1, g⟩ := leafs_cons g
  obtain ⟨y2, q2, rfl, v2, g⟩ := leafs_cons g
  obtain rfl := leafs_nil g
  obtain ⟨n0, rfl, w0⟩ := v0
  obtain ⟨n1, rfl, w1⟩ := v1
  obtain ⟨b2, rfl⟩ := v2
  exact ⟨⟨n0, n1, b2⟩, rfl, ⟨wf_u8 w0, wf_u8 w1⟩⟩
theorem wishF {xs : List T} (h : ∀ y ∈ xs, FitE Tryd.prog 70 y) : ∃ l, xs = List.map encW l ∧ ∀ a ∈ l, okW a := list_enc' (fun y hy => wishF_one (h y hy))
theorem moveF_one {x : T} (f : FitE Tryd.prog 72 x) : ∃ a, x = encM a ∧ okM a := by
  obtain ⟨c, rfl, g⟩ := fit_agg (ls := [.int .u8, .bool, .int .u8, .int .u8, .int .u8]) (by kernel_rfl) (by kernel_rfl) f
  obtain ⟨y0, q0, rfl, v0, g⟩ := leafs_cons g
  obtain ⟨y1, q1, rfl, v1, g⟩ := leafs_cons g
  obtain ⟨y2, q2, rfl, v2, g⟩ := leafs_cons g
  obtain ⟨y3, q3, rfl, v3, g⟩ := leafs_cons g
  obtain ⟨y4, q4, rfl, v4, g⟩ := leafs_cons g
  obtain rfl := leafs_nil g
  obtain ⟨n0, rfl, w0⟩ := v0
  obtain ⟨b1, rfl⟩ := v1
  obtain ⟨n2, rfl, w2⟩ := v2
  obtain ⟨n3, rfl, w3⟩ := v3
  obtain ⟨n4, rfl, w4⟩ := v4
  exact ⟨⟨n0, b1, n2, n3, n4⟩, rfl, ⟨wf_u8 w0, wf_u8 w2, wf_u8 w3⟩⟩
theorem moveF {xs : List T} (h : ∀ y ∈ xs, FitE Tryd.prog 72 y) : ∃ l, xs = List.map encM l ∧ ∀ a ∈ l, okM a := list_enc' (fun y hy => moveF_one (h y hy))

end Go.Proofs.YthcaepnclhgkmaaDoor
