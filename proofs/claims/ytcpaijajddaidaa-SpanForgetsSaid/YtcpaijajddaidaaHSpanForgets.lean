/- SpanForgets answers true for all arguments: after MaxAge + 1 ticks without messages a bridge has forgotten everything, and all its ports are designated. No conditions. -/
import Derived.Test.YtcpaijajddaidaaSpQ
import Derived.Test.YtcpaijajddaidaaSpFit2
set_option linter.unusedSimpArgs false
set_option linter.unusedVariables false
namespace Go.Proofs.Ytcpaijajddaidaa
open Go Go.Abs Go.RowKit

theorem spanForgets_all (xs : List T) (h : FitAll Try.prog 20 Try.f9.params.toList xs) : ans Try.prog pol 9 xs = some (.sc (.bool true)) := by
  have hp : Try.f9.params.toList = [23, 62] := by kernel_rfl
  rw [hp] at h
  obtain ⟨x0, r0, rfl, f0, h⟩ := fitAll_cons h
  obtain ⟨x1, r1, rfl, f1, h⟩ := fitAll_cons h
  obtain rfl := fitAll_nil h
  obtain ⟨c0, rfl, g0⟩ := fit_agg (ls := [.int .i64, .int .i64]) (by kernel_rfl) (by kernel_rfl) f0
  obtain ⟨y0_0, q0_0, rfl, v0_0, g0⟩ := leafs_cons g0
  obtain ⟨y0_1, q0_1, rfl, v0_1, g0⟩ := leafs_cons g0
  obtain rfl := leafs_nil g0
  obtain ⟨n0_0, rfl, w0_0⟩ := v0_0
  obtain ⟨n0_1, rfl, w0_1⟩ := v0_1
  obtain ⟨l1, rfl, k1, e1⟩ := fit_leaf (l := .sl 9 92) (by kernel_rfl) (by kernel_rfl) f1
  exact by
    obtain ⟨es, rfl, hes⟩ := events e1
    exact spanForgets_ans n0_0 n0_1 es hes (len_lt (by simpa using k1))

set_option maxRecDepth 100000 in
theorem spanForgets_lifted (os : Os) (started : os.Started) (H : Type) (enc : TypeId × Value → H) :
    ReturnsInHanded {} Try.checked os 9 .any (Rows.spanForgetsSpec.pre6 enc Try.prog Try.f9 Rows.spanForgetsRow.domain false) (Rows.spanForgetsSpec.post enc Try.prog Try.f9 false true false false) := by
  refine returnsInHanded_of_change (C := Try.checked) own started (by kernel_rfl) Try.func9
    (ChangeSpec.witness6 (enc := enc) (C := Try.checked) false ⟨#[], #[.agg #[.int .i64 0, .int .i64 0], .slice none 0 0], []⟩ 8 (by kernel_rfl) (by kernel_rfl) (by kernel_rfl) (by kernel_rfl)) ?_
  intro W base args ds gs before hval hW _ _
  refine law_calls (P := Try.prog) (d := 20) sound (fun _ => rfl) laidOut (by kernel_rfl) (tb := 4) (by kernel_rfl) (by kernel_rfl) rfl (fun ds hds => ?_) spanForgets_all hval hW
  have hn : Try.f9.params.size = 2 := by kernel_rfl
  rw [hn] at hds
  match ds, hds with
  | [d0, d1], _ => rfl

theorem spanForgets_holds : Rows.SpanForgetsSaid :=
  OpenClaim.holds_of_wide 9 Try.f9 rfl rfl rfl rfl rfl rfl rfl ⟨rfl, rfl, rfl, rfl, rfl⟩ rfl rfl rfl rfl rfl (by kernel_rfl) Try.func9 (by kernel_rfl)
    (of_decide_eq_true (by kernel_rfl)) (by unfold Func.isWrapper; first | (rw [if_pos (by decide +kernel)]; kernel_rfl) | (rw [if_neg (by decide +kernel)]; exact ⟨rfl, rfl⟩))
    (fun os started H enc _ => spanForgets_lifted os started H enc)

end Go.Proofs.Ytcpaijajddaidaa
