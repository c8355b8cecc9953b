/- RecoverSteps answers true for all arguments: Accept agrees with the reference for any state, number and time. No conditions. -/
import Derived.Test.YtkamfflnfnjbeaaRecF
import Derived.Test.YtkamfflnfnjbeaaAbsWf
set_option linter.unusedSimpArgs false
set_option linter.unusedVariables false
namespace Go.Proofs.Ytkamfflnfnjbeaa
open Go Go.Abs Go.RowKit

theorem recoverSteps_all (xs : List T) (h : FitAll Try.prog 20 Try.f10.params.toList xs) : ans Try.prog pol 10 xs = some (.sc (.bool true)) := by
  have hp : Try.f10.params.toList = [65, 68, 3, 3, 80] := by kernel_rfl
  rw [hp] at h
  obtain ⟨x0, r0, rfl, f0, h⟩ := fitAll_cons h
  obtain ⟨x1, r1, rfl, f1, h⟩ := fitAll_cons h
  obtain ⟨x2, r2, rfl, f2, h⟩ := fitAll_cons h
  obtain ⟨x3, r3, rfl, f3, h⟩ := fitAll_cons h
  obtain ⟨x4, r4, rfl, f4, h⟩ := fitAll_cons h
  obtain rfl := fitAll_nil h
  obtain ⟨c0, rfl, g0⟩ := fit_agg (ls := [.int .i64, .int .i64, .bool, .int .i64, .int .i64, .int .u64]) (by kernel_rfl) (by kernel_rfl) f0
  obtain ⟨y0_0, q0_0, rfl, v0_0, g0⟩ := leafs_cons g0
  obtain ⟨y0_1, q0_1, rfl, v0_1, g0⟩ := leafs_cons g0
  obtain ⟨y0_2, q0_2, rfl, v0_2, g0⟩ := leafs_cons g0
  obtain ⟨y0_3, q0_3, rfl, v0_3, g0⟩ := leafs_cons g0
  obtain ⟨y0_4, q0_4, rfl, v0_4, g0⟩ := leafs_cons g0
  obtain ⟨y0_5, q0_5, rfl, v0_5, g0⟩ := leafs_cons g0
  obtain rfl := leafs_nil g0
  obtain ⟨n0_0, rfl, w0_0⟩ := v0_0
  obtain ⟨n0_1, rfl, w0_1⟩ := v0_1
  obtain ⟨b0_2, rfl⟩ := v0_2
  obtain ⟨n0_3, rfl, w0_3⟩ := v0_3
  obtain ⟨n0_4, rfl, w0_4⟩ := v0_4
  obtain ⟨n0_5, rfl, w0_5⟩ := v0_5
  obtain ⟨c1, rfl, g1⟩ := fit_agg (ls := [.int .u8, .int .u32, .bool, .int .u16, .int .u32, .int .u64]) (by kernel_rfl) (by kernel_rfl) f1
  obtain ⟨y1_0, q1_0, rfl, v1_0, g1⟩ := leafs_cons g1
  obtain ⟨y1_1, q1_1, rfl, v1_1, g1⟩ := leafs_cons g1
  obtain ⟨y1_2, q1_2, rfl, v1_2, g1⟩ := leafs_cons g1
  obtain ⟨y1_3, q1_3, rfl, v1_3, g1⟩ := leafs_cons g1
  obtain ⟨y1_4, q1_4, rfl, v1_4, g1⟩ := leafs_cons g1
  obtain ⟨y1_5, q1_5, rfl, v1_5, g1⟩ := leafs_cons g1
  obtain rfl := leafs_nil g1
  obtain ⟨n1_0, rfl, w1_0⟩ := v1_0
  obtain ⟨n1_1, rfl, w1_1⟩ := v1_1
  obtain ⟨b1_2, rfl⟩ := v1_2
  obtain ⟨n1_3, rfl, w1_3⟩ := v1_3
  obtain ⟨n1_4, rfl, w1_4⟩ := v1_4
  obtain ⟨n1_5, rfl, w1_5⟩ := v1_5
  obtain ⟨n2, rfl, w2⟩ := fit_leaf (l := .int .i64) (by kernel_rfl) (by kernel_rfl) f2
  obtain ⟨n3, rfl, w3⟩ := fit_leaf (l := .int .i64) (by kernel_rfl) (by kernel_rfl) f3
  obtain ⟨n4, rfl, w4⟩ := fit_leaf (l := .int .i8) (by kernel_rfl) (by kernel_rfl) f4
  exact by
    obtain ⟨s, rfl⟩ := Int.eq_ofNat_of_zero_le (wf_u64 w0_5).1
    obtain ⟨u, rfl⟩ := Int.eq_ofNat_of_zero_le (wf_u64 w1_5).1
    exact recoverSteps_ans ⟨n0_0, n0_1, b0_2, n0_3, n0_4, s⟩ (by have := (wf_u64 w0_5).2; show s < _; omega) n1_0 n1_1 b1_2 n1_3 n1_4 u (wf_u8 w1_0) (wf_u32 w1_1) (wf_u16 w1_3) (wf_u32 w1_4) (by have := (wf_u64 w1_5).2; omega) n2 n3 n4 (wf_i8 w4)

set_option maxRecDepth 100000 in
theorem recoverSteps_lifted (os : Os) (started : os.Started) (H : Type) (enc : TypeId × Value → H) :
    ReturnsInHanded {} Try.checked os 10 .any (Rows.recoverStepsSpec.pre6 enc Try.prog Try.f10 Rows.recoverStepsRow.domain false) (Rows.recoverStepsSpec.post enc Try.prog Try.f10 false true false false) := by
  refine returnsInHanded_of_change (C := Try.checked) own started (by kernel_rfl) Try.func10
    (ChangeSpec.witness6 (enc := enc) (C := Try.checked) false ⟨#[], #[.agg #[.int .i64 0, .int .i64 0, .bool false, .int .i64 0, .int .i64 0, .int .u64 0], .agg #[.int .u8 0, .int .u32 0, .bool false, .int .u16 0, .int .u32 0, .int .u64 0], .int .i64 0, .int .i64 0, .int .i8 0], []⟩ 8 (by kernel_rfl) (by kernel_rfl) (by kernel_rfl) (by kernel_rfl)) ?_
  intro W base args ds gs before hval hW _ _
  refine law_calls (P := Try.prog) (d := 20) sound (fun _ => rfl) laidOut (by kernel_rfl) (tb := 4) (by kernel_rfl) (by kernel_rfl) rfl (fun ds hds => ?_) recoverSteps_all hval hW
  have hn : Try.f10.params.size = 5 := by kernel_rfl
  rw [hn] at hds
  match ds, hds with
  | [d0, d1, d2, d3, d4], _ => rfl

theorem recoverSteps_holds : Rows.RecoverStepsSaid :=
  OpenClaim.holds_of_wide 10 Try.f10 rfl rfl rfl rfl rfl rfl rfl ⟨rfl, rfl, rfl, rfl, rfl⟩ rfl rfl rfl rfl rfl (by kernel_rfl) Try.func10 (by kernel_rfl)
    (of_decide_eq_true (by kernel_rfl)) (by unfold Func.isWrapper; first | (rw [if_pos (by decide +kernel)]; kernel_rfl) | (rw [if_neg (by decide +kernel)]; exact ⟨rfl, rfl⟩))
    (fun os started H enc _ => recoverSteps_lifted os started H enc)

end Go.Proofs.Ytkamfflnfnjbeaa
