/- SpanHears answers true for all arguments: Receive, Forget and Tick return the defined bridges and errors. No conditions. -/
import Derived.Test.YtcpaijajddaidaaSpJ
import Derived.Test.YtcpaijajddaidaaSpFit
set_option linter.unusedSimpArgs false
set_option linter.unusedVariables false
namespace Go.Proofs.Ytcpaijajddaidaa
open Go Go.Abs Go.RowKit

theorem spanHears_all (xs : List T) (h : FitAll Try.prog 20 Try.f6.params.toList xs) : ans Try.prog pol 6 xs = some (.sc (.bool true)) := by
  have hp : Try.f6.params.toList = [27, 3, 49] := by kernel_rfl
  rw [hp] at h
  obtain ⟨x0, r0, rfl, f0, h⟩ := fitAll_cons h
  obtain ⟨x1, r1, rfl, f1, h⟩ := fitAll_cons h
  obtain ⟨x2, r2, rfl, f2, h⟩ := fitAll_cons h
  obtain rfl := fitAll_nil h
  obtain ⟨c0, rfl, g0⟩ := fit_agg (ls := [.int .i64, .int .i64, .sl 1 3, .sl 1 3, .sl 8 51]) (by kernel_rfl) (by kernel_rfl) f0
  obtain ⟨y0_0, q0_0, rfl, v0_0, g0⟩ := leafs_cons g0
  obtain ⟨y0_1, q0_1, rfl, v0_1, g0⟩ := leafs_cons g0
  obtain ⟨y0_2, q0_2, rfl, v0_2, g0⟩ := leafs_cons g0
  obtain ⟨y0_3, q0_3, rfl, v0_3, g0⟩ := leafs_cons g0
  obtain ⟨y0_4, q0_4, rfl, v0_4, g0⟩ := leafs_cons g0
  obtain rfl := leafs_nil g0
  obtain ⟨n0_0, rfl, w0_0⟩ := v0_0
  obtain ⟨n0_1, rfl, w0_1⟩ := v0_1
  obtain ⟨l0_2, rfl, k0_2, e0_2⟩ := v0_2
  obtain ⟨l0_3, rfl, k0_3, e0_3⟩ := v0_3
  obtain ⟨l0_4, rfl, k0_4, e0_4⟩ := v0_4
  obtain ⟨n1, rfl, w1⟩ := fit_leaf (l := .int .i64) (by kernel_rfl) (by kernel_rfl) f1
  obtain ⟨c2, rfl, g2⟩ := fit_agg (ls := [.int .i64, .int .i64, .int .i64, .int .i64, .int .i64, .int .i64, .int .i64]) (by kernel_rfl) (by kernel_rfl) f2
  obtain ⟨y2_0, q2_0, rfl, v2_0, g2⟩ := leafs_cons g2
  obtain ⟨y2_1, q2_1, rfl, v2_1, g2⟩ := leafs_cons g2
  obtain ⟨y2_2, q2_2, rfl, v2_2, g2⟩ := leafs_cons g2
  obtain ⟨y2_3, q2_3, rfl, v2_3, g2⟩ := leafs_cons g2
  obtain ⟨y2_4, q2_4, rfl, v2_4, g2⟩ := leafs_cons g2
  obtain ⟨y2_5, q2_5, rfl, v2_5, g2⟩ := leafs_cons g2
  obtain ⟨y2_6, q2_6, rfl, v2_6, g2⟩ := leafs_cons g2
  obtain rfl := leafs_nil g2
  obtain ⟨n2_0, rfl, w2_0⟩ := v2_0
  obtain ⟨n2_1, rfl, w2_1⟩ := v2_1
  obtain ⟨n2_2, rfl, w2_2⟩ := v2_2
  obtain ⟨n2_3, rfl, w2_3⟩ := v2_3
  obtain ⟨n2_4, rfl, w2_4⟩ := v2_4
  obtain ⟨n2_5, rfl, w2_5⟩ := v2_5
  obtain ⟨n2_6, rfl, w2_6⟩ := v2_6
  exact by
    obtain ⟨ps, rfl⟩ := ints e0_2
    obtain ⟨cs, rfl⟩ := ints e0_3
    obtain ⟨hs, rfl⟩ := heards e0_4
    exact spanHears_ans ⟨n0_0, n0_1, ps, cs, hs⟩ n1 ⟨true, n2_0, n2_1, n2_2, n2_3, n2_4, n2_5, n2_6⟩

set_option maxRecDepth 100000 in
theorem spanHears_lifted (os : Os) (started : os.Started) (H : Type) (enc : TypeId × Value → H) :
    ReturnsInHanded {} Try.checked os 6 .any (Rows.spanHearsSpec.pre6 enc Try.prog Try.f6 Rows.spanHearsRow.domain false) (Rows.spanHearsSpec.post enc Try.prog Try.f6 false true false false) := by
  refine returnsInHanded_of_change (C := Try.checked) own started (by kernel_rfl) Try.func6
    (ChangeSpec.witness6 (enc := enc) (C := Try.checked) false ⟨#[], #[.agg #[.int .i64 0, .int .i64 0, .slice none 0 0, .slice none 0 0, .slice none 0 0], .int .i64 0, .agg #[.int .i64 0, .int .i64 0, .int .i64 0, .int .i64 0, .int .i64 0, .int .i64 0, .int .i64 0]], []⟩ 8 (by kernel_rfl) (by kernel_rfl) (by kernel_rfl) (by kernel_rfl)) ?_
  intro W base args ds gs before hval hW _ _
  refine law_calls (P := Try.prog) (d := 20) sound (fun _ => rfl) laidOut (by kernel_rfl) (tb := 4) (by kernel_rfl) (by kernel_rfl) rfl (fun ds hds => ?_) spanHears_all hval hW
  have hn : Try.f6.params.size = 3 := by kernel_rfl
  rw [hn] at hds
  match ds, hds with
  | [d0, d1, d2], _ => rfl

theorem spanHears_holds : Rows.SpanHearsSaid :=
  OpenClaim.holds_of_wide 6 Try.f6 rfl rfl rfl rfl rfl rfl rfl ⟨rfl, rfl, rfl, rfl, rfl⟩ rfl rfl rfl rfl rfl (by kernel_rfl) Try.func6 (by kernel_rfl)
    (of_decide_eq_true (by kernel_rfl)) (by unfold Func.isWrapper; first | (rw [if_pos (by decide +kernel)]; kernel_rfl) | (rw [if_neg (by decide +kernel)]; exact ⟨rfl, rfl⟩))
    (fun os started H enc _ => spanHears_lifted os started H enc)

end Go.Proofs.Ytcpaijajddaidaa
