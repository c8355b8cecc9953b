/- ElectOrders answers true for all arguments: Compare is a total order. No conditions. -/
import Derived.Test.YtboknhdkadcaeaaElA
import Derived.Test.YtboknhdkadcaeaaWorks11
set_option linter.unusedSimpArgs false
set_option linter.unusedVariables false
namespace Go.Proofs.Ytboknhdkadcaeaa
open Go Go.Abs Go.RowKit

theorem electOrders_all (xs : List T) (h : FitAll Try.prog 20 Try.f8.params.toList xs) : ans Try.prog pol 8 xs = some (.sc (.bool true)) := by
  have hp : Try.f8.params.toList = [33, 33, 33] := by kernel_rfl
  rw [hp] at h
  obtain ⟨x0, r0, rfl, f0, h⟩ := fitAll_cons h
  obtain ⟨x1, r1, rfl, f1, h⟩ := fitAll_cons h
  obtain ⟨x2, r2, rfl, f2, h⟩ := fitAll_cons h
  obtain rfl := fitAll_nil h
  obtain ⟨c0, rfl, g0⟩ := fit_agg (ls := [.int .i64, .int .i64, .int .i64, .int .i64, .int .i64, .int .i64, .int .i64, .int .i64, .int .i64]) (by kernel_rfl) (by kernel_rfl) f0
  obtain ⟨y0_0, q0_0, rfl, v0_0, g0⟩ := leafs_cons g0
  obtain ⟨y0_1, q0_1, rfl, v0_1, g0⟩ := leafs_cons g0
  obtain ⟨y0_2, q0_2, rfl, v0_2, g0⟩ := leafs_cons g0
  obtain ⟨y0_3, q0_3, rfl, v0_3, g0⟩ := leafs_cons g0
  obtain ⟨y0_4, q0_4, rfl, v0_4, g0⟩ := leafs_cons g0
  obtain ⟨y0_5, q0_5, rfl, v0_5, g0⟩ := leafs_cons g0
  obtain ⟨y0_6, q0_6, rfl, v0_6, g0⟩ := leafs_cons g0
  obtain ⟨y0_7, q0_7, rfl, v0_7, g0⟩ := leafs_cons g0
  obtain ⟨y0_8, q0_8, rfl, v0_8, g0⟩ := leafs_cons g0
  obtain rfl := leafs_nil g0
  obtain ⟨n0_0, rfl, w0_0⟩ := v0_0
  obtain ⟨n0_1, rfl, w0_1⟩ := v0_1
  obtain ⟨n0_2, rfl, w0_2⟩ := v0_2
  obtain ⟨n0_3, rfl, w0_3⟩ := v0_3
  obtain ⟨n0_4, rfl, w0_4⟩ := v0_4
  obtain ⟨n0_5, rfl, w0_5⟩ := v0_5
  obtain ⟨n0_6, rfl, w0_6⟩ := v0_6
  obtain ⟨n0_7, rfl, w0_7⟩ := v0_7
  obtain ⟨n0_8, rfl, w0_8⟩ := v0_8
  obtain ⟨c1, rfl, g1⟩ := fit_agg (ls := [.int .i64, .int .i64, .int .i64, .int .i64, .int .i64, .int .i64, .int .i64, .int .i64, .int .i64]) (by kernel_rfl) (by kernel_rfl) f1
  obtain ⟨y1_0, q1_0, rfl, v1_0, g1⟩ := leafs_cons g1
  obtain ⟨y1_1, q1_1, rfl, v1_1, g1⟩ := leafs_cons g1
  obtain ⟨y1_2, q1_2, rfl, v1_2, g1⟩ := leafs_cons g1
  obtain ⟨y1_3, q1_3, rfl, v1_3, g1⟩ := leafs_cons g1
  obtain ⟨y1_4, q1_4, rfl, v1_4, g1⟩ := leafs_cons g1
  obtain ⟨y1_5, q1_5, rfl, v1_5, g1⟩ := leafs_cons g1
  obtain ⟨y1_6, q1_6, rfl, v1_6, g1⟩ := leafs_cons g1
  obtain ⟨y1_7, q1_7, rfl, v1_7, g1⟩ := leafs_cons g1
  obtain ⟨y1_8, q1_8, rfl, v1_8, g1⟩ := leafs_cons g1
  obtain rfl := leafs_nil g1
  obtain ⟨n1_0, rfl, w1_0⟩ := v1_0
  obtain ⟨n1_1, rfl, w1_1⟩ := v1_1
  obtain ⟨n1_2, rfl, w1_2⟩ := v1_2
  obtain ⟨n1_3, rfl, w1_3⟩ := v1_3
  obtain ⟨n1_4, rfl, w1_4⟩ := v1_4
  obtain ⟨n1_5, rfl, w1_5⟩ := v1_5
  obtain ⟨n1_6, rfl, w1_6⟩ := v1_6
  obtain ⟨n1_7, rfl, w1_7⟩ := v1_7
  obtain ⟨n1_8, rfl, w1_8⟩ := v1_8
  obtain ⟨c2, rfl, g2⟩ := fit_agg (ls := [.int .i64, .int .i64, .int .i64, .int .i64, .int .i64, .int .i64, .int .i64, .int .i64, .int .i64]) (by kernel_rfl) (by kernel_rfl) f2
  obtain ⟨y2_0, q2_0, rfl, v2_0, g2⟩ := leafs_cons g2
  obtain ⟨y2_1, q2_1, rfl, v2_1, g2⟩ := leafs_cons g2
  obtain ⟨y2_2, q2_2, rfl, v2_2, g2⟩ := leafs_cons g2
  obtain ⟨y2_3, q2_3, rfl, v2_3, g2⟩ := leafs_cons g2
  obtain ⟨y2_4, q2_4, rfl, v2_4, g2⟩ := leafs_cons g2
  obtain ⟨y2_5, q2_5, rfl, v2_5, g2⟩ := leafs_cons g2
  obtain ⟨y2_6, q2_6, rfl, v2_6, g2⟩ := leafs_cons g2
  obtain ⟨y2_7, q2_7, rfl, v2_7, g2⟩ := leafs_cons g2
  obtain ⟨y2_8, q2_8, rfl, v2_8, g2⟩ := leafs_cons g2
  obtain rfl := leafs_nil g2
  obtain ⟨n2_0, rfl, w2_0⟩ := v2_0
  obtain ⟨n2_1, rfl, w2_1⟩ := v2_1
  obtain ⟨n2_2, rfl, w2_2⟩ := v2_2
  obtain ⟨n2_3, rfl, w2_3⟩ := v2_3
  obtain ⟨n2_4, rfl, w2_4⟩ := v2_4
  obtain ⟨n2_5, rfl, w2_5⟩ := v2_5
  obtain ⟨n2_6, rfl, w2_6⟩ := v2_6
  obtain ⟨n2_7, rfl, w2_7⟩ := v2_7
  obtain ⟨n2_8, rfl, w2_8⟩ := v2_8
  exact electOrders_ans n0_0 n0_1 n0_2 n0_3 n0_4 n0_5 n0_6 n0_7 n0_8 n1_0 n1_1 n1_2 n1_3 n1_4 n1_5 n1_6 n1_7 n1_8 n2_0 n2_1 n2_2 n2_3 n2_4 n2_5 n2_6 n2_7 n2_8 works_ans

set_option maxRecDepth 100000 in
theorem electOrders_lifted (os : Os) (started : os.Started) (H : Type) (enc : TypeId × Value → H) :
    ReturnsInHanded {} Try.checked os 8 .any (Rows.electOrdersSpec.pre6 enc Try.prog Try.f8 Rows.electOrdersRow.domain false) (Rows.electOrdersSpec.post enc Try.prog Try.f8 false true false false) := by
  refine returnsInHanded_of_change (C := Try.checked) own started (by kernel_rfl) Try.func8
    (ChangeSpec.witness6 (enc := enc) (C := Try.checked) false ⟨#[], #[.agg #[.int .i64 0, .int .i64 0, .int .i64 0, .int .i64 0, .int .i64 0, .int .i64 0, .int .i64 0, .int .i64 0, .int .i64 0], .agg #[.int .i64 0, .int .i64 0, .int .i64 0, .int .i64 0, .int .i64 0, .int .i64 0, .int .i64 0, .int .i64 0, .int .i64 0], .agg #[.int .i64 0, .int .i64 0, .int .i64 0, .int .i64 0, .int .i64 0, .int .i64 0, .int .i64 0, .int .i64 0, .int .i64 0]], []⟩ 8 (by kernel_rfl) (by kernel_rfl) (by kernel_rfl) (by kernel_rfl)) ?_
  intro W base args ds gs before hval hW _ _
  refine law_calls (P := Try.prog) (d := 20) sound (fun _ => rfl) laidOut (by kernel_rfl) (tb := 4) (by kernel_rfl) (by kernel_rfl) rfl (fun ds hds => ?_) electOrders_all hval hW
  have hn : Try.f8.params.size = 3 := by kernel_rfl
  rw [hn] at hds
  match ds, hds with
  | [d0, d1, d2], _ => rfl

theorem electOrders_holds : Rows.ElectOrdersSaid :=
  OpenClaim.holds_of_wide 8 Try.f8 rfl rfl rfl rfl rfl rfl rfl ⟨rfl, rfl, rfl, rfl, rfl⟩ rfl rfl rfl rfl rfl (by kernel_rfl) Try.func8 (by kernel_rfl)
    (of_decide_eq_true (by kernel_rfl)) (by unfold Func.isWrapper; first | (rw [if_pos (by decide +kernel)]; kernel_rfl) | (rw [if_neg (by decide +kernel)]; exact ⟨rfl, rfl⟩))
    (fun os started H enc _ => electOrders_lifted os started H enc)

end Go.Proofs.Ytboknhdkadcaeaa
