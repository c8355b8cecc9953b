/- SpanChecks answers true for all arguments: Check and New agree with the definition. No conditions. -/
import Derived.Test.YtcpaijajddaidaaSpE
import Derived.Test.YtcpaijajddaidaaSpFit
set_option linter.unusedSimpArgs false
set_option linter.unusedVariables false
namespace Go.Proofs.Ytcpaijajddaidaa
open Go Go.Abs Go.RowKit

theorem spanChecks_all (xs : List T) (h : FitAll Try.prog 20 Try.f3.params.toList xs) : ans Try.prog pol 3 xs = some (.sc (.bool true)) := by
  have hp : Try.f3.params.toList = [27] := by kernel_rfl
  rw [hp] at h
  obtain ⟨x0, r0, rfl, f0, h⟩ := fitAll_cons h
  obtain rfl := fitAll_nil h
  obtain ⟨c0, rfl, g0⟩ := fit_agg (ls := [.int .i64, .int .i64, .sl 1 3, .sl 1 3, .sl 8 51]) (by kernel_rfl) (by kernel_rfl) f0
  obtain ⟨y0_0, q0_0, rfl, v0_0, g0⟩ := leafs_cons g0
  obtain ⟨y0_1, q0_1, rfl, v0_1, g0⟩ := leafs_cons g0
  obtain ⟨y0_2, q0_2, rfl, v0_2, g0⟩ := leafs_cons g0
  obtain ⟨y0_3, q0_3, rfl, v0_3, g0⟩ := leafs_cons g0
  obtain ⟨y0_4, q0_4, rfl, v0_4, g0⟩ := leafs_cons g0
  obtain rfl := leafs_nil g0
  obtain ⟨n0_0, rfl, w0_0⟩ := v0_0
  obtain ⟨n0_1, rfl, w0_1⟩ := v0_1
  obtain ⟨l0_2, rfl, k0_2, e0_2⟩ := v0_2
  obtain ⟨l0_3, rfl, k0_3, e0_3⟩ := v0_3
  obtain ⟨l0_4, rfl, k0_4, e0_4⟩ := v0_4
  exact by
    obtain ⟨ps, rfl⟩ := ints e0_2
    obtain ⟨cs, rfl⟩ := ints e0_3
    obtain ⟨hs, rfl⟩ := heards e0_4
    exact spanChecks_ans ⟨n0_0, n0_1, ps, cs, hs⟩

set_option maxRecDepth 100000 in
theorem spanChecks_lifted (os : Os) (started : os.Started) (H : Type) (enc : TypeId × Value → H) :
    ReturnsInHanded {} Try.checked os 3 .any (Rows.spanChecksSpec.pre6 enc Try.prog Try.f3 Rows.spanChecksRow.domain false) (Rows.spanChecksSpec.post enc Try.prog Try.f3 false true false false) := by
  refine returnsInHanded_of_change (C := Try.checked) own started (by kernel_rfl) Try.func3
    (ChangeSpec.witness6 (enc := enc) (C := Try.checked) false ⟨#[], #[.agg #[.int .i64 0, .int .i64 0, .slice none 0 0, .slice none 0 0, .slice none 0 0]], []⟩ 8 (by kernel_rfl) (by kernel_rfl) (by kernel_rfl) (by kernel_rfl)) ?_
  intro W base args ds gs before hval hW _ _
  refine law_calls (P := Try.prog) (d := 20) sound (fun _ => rfl) laidOut (by kernel_rfl) (tb := 4) (by kernel_rfl) (by kernel_rfl) rfl (fun ds hds => ?_) spanChecks_all hval hW
  have hn : Try.f3.params.size = 1 := by kernel_rfl
  rw [hn] at hds
  match ds, hds with
  | [d0], _ => rfl

theorem spanChecks_holds : Rows.SpanChecksSaid :=
  OpenClaim.holds_of_wide 3 Try.f3 rfl rfl rfl rfl rfl rfl rfl ⟨rfl, rfl, rfl, rfl, rfl⟩ rfl rfl rfl rfl rfl (by kernel_rfl) Try.func3 (by kernel_rfl)
    (of_decide_eq_true (by kernel_rfl)) (by unfold Func.isWrapper; first | (rw [if_pos (by decide +kernel)]; kernel_rfl) | (rw [if_neg (by decide +kernel)]; exact ⟨rfl, rfl⟩))
    (fun os started H enc _ => spanChecks_lifted os started H enc)

end Go.Proofs.Ytcpaijajddaidaa
