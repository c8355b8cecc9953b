/- SpanKeeps answers true for all arguments: a worse message of another sender changes nothing; any other message is kept. No conditions. -/
import Derived.Test.YtcpaijajddaidaaSpL
import Derived.Test.YtcpaijajddaidaaSpFit2
set_option linter.unusedSimpArgs false
set_option linter.unusedVariables false
namespace Go.Proofs.Ytcpaijajddaidaa
open Go Go.Abs Go.RowKit

theorem spanKeeps_all (xs : List T) (h : FitAll Try.prog 20 Try.f10.params.toList xs) : ans Try.prog pol 10 xs = some (.sc (.bool true)) := by
  have hp : Try.f10.params.toList = [23, 62, 49, 5] := by kernel_rfl
  rw [hp] at h
  obtain ⟨x0, r0, rfl, f0, h⟩ := fitAll_cons h
  obtain ⟨x1, r1, rfl, f1, h⟩ := fitAll_cons h
  obtain ⟨x2, r2, rfl, f2, h⟩ := fitAll_cons h
  obtain ⟨x3, r3, rfl, f3, h⟩ := fitAll_cons h
  obtain rfl := fitAll_nil h
  obtain ⟨c0, rfl, g0⟩ := fit_agg (ls := [.int .i64, .int .i64]) (by kernel_rfl) (by kernel_rfl) f0
  obtain ⟨y0_0, q0_0, rfl, v0_0, g0⟩ := leafs_cons g0
  obtain ⟨y0_1, q0_1, rfl, v0_1, g0⟩ := leafs_cons g0
  obtain rfl := leafs_nil g0
  obtain ⟨n0_0, rfl, w0_0⟩ := v0_0
  obtain ⟨n0_1, rfl, w0_1⟩ := v0_1
  obtain ⟨l1, rfl, k1, e1⟩ := fit_leaf (l := .sl 9 92) (by kernel_rfl) (by kernel_rfl) f1
  obtain ⟨c2, rfl, g2⟩ := fit_agg (ls := [.int .i64, .int .i64, .int .i64, .int .i64, .int .i64, .int .i64, .int .i64]) (by kernel_rfl) (by kernel_rfl) f2
  obtain ⟨y2_0, q2_0, rfl, v2_0, g2⟩ := leafs_cons g2
  obtain ⟨y2_1, q2_1, rfl, v2_1, g2⟩ := leafs_cons g2
  obtain ⟨y2_2, q2_2, rfl, v2_2, g2⟩ := leafs_cons g2
  obtain ⟨y2_3, q2_3, rfl, v2_3, g2⟩ := leafs_cons g2
  obtain ⟨y2_4, q2_4, rfl, v2_4, g2⟩ := leafs_cons g2
  obtain ⟨y2_5, q2_5, rfl, v2_5, g2⟩ := leafs_cons g2
  obtain ⟨y2_6, q2_6, rfl, v2_6, g2⟩ := leafs_cons g2
  obtain rfl := leafs_nil g2
  obtain ⟨n2_0, rfl, w2_0⟩ := v2_0
  obtain ⟨n2_1, rfl, w2_1⟩ := v2_1
  obtain ⟨n2_2, rfl, w2_2⟩ := v2_2
  obtain ⟨n2_3, rfl, w2_3⟩ := v2_3
  obtain ⟨n2_4, rfl, w2_4⟩ := v2_4
  obtain ⟨n2_5, rfl, w2_5⟩ := v2_5
  obtain ⟨n2_6, rfl, w2_6⟩ := v2_6
  obtain ⟨n3, rfl, w3⟩ := fit_leaf (l := .int .u8) (by kernel_rfl) (by kernel_rfl) f3
  exact by
    obtain ⟨es, rfl, hes⟩ := events e1
    exact spanKeeps_ans n0_0 n0_1 es hes (len_lt (by simpa using k1)) ⟨true, n2_0, n2_1, n2_2, n2_3, n2_4, n2_5, n2_6⟩ n3 (wf_u8 w3)

set_option maxRecDepth 100000 in
theorem spanKeeps_lifted (os : Os) (started : os.Started) (H : Type) (enc : TypeId × Value → H) :
    ReturnsInHanded {} Try.checked os 10 .any (Rows.spanKeepsSpec.pre6 enc Try.prog Try.f10 Rows.spanKeepsRow.domain false) (Rows.spanKeepsSpec.post enc Try.prog Try.f10 false true false false) := by
  refine returnsInHanded_of_change (C := Try.checked) own started (by kernel_rfl) Try.func10
    (ChangeSpec.witness6 (enc := enc) (C := Try.checked) false ⟨#[], #[.agg #[.int .i64 0, .int .i64 0], .slice none 0 0, .agg #[.int .i64 0, .int .i64 0, .int .i64 0, .int .i64 0, .int .i64 0, .int .i64 0, .int .i64 0], .int .u8 0], []⟩ 8 (by kernel_rfl) (by kernel_rfl) (by kernel_rfl) (by kernel_rfl)) ?_
  intro W base args ds gs before hval hW _ _
  refine law_calls (P := Try.prog) (d := 20) sound (fun _ => rfl) laidOut (by kernel_rfl) (tb := 4) (by kernel_rfl) (by kernel_rfl) rfl (fun ds hds => ?_) spanKeeps_all hval hW
  have hn : Try.f10.params.size = 4 := by kernel_rfl
  rw [hn] at hds
  match ds, hds with
  | [d0, d1, d2, d3], _ => rfl

theorem spanKeeps_holds : Rows.SpanKeepsSaid :=
  OpenClaim.holds_of_wide 10 Try.f10 rfl rfl rfl rfl rfl rfl rfl ⟨rfl, rfl, rfl, rfl, rfl⟩ rfl rfl rfl rfl rfl (by kernel_rfl) Try.func10 (by kernel_rfl)
    (of_decide_eq_true (by kernel_rfl)) (by unfold Func.isWrapper; first | (rw [if_pos (by decide +kernel)]; kernel_rfl) | (rw [if_neg (by decide +kernel)]; exact ⟨rfl, rfl⟩))
    (fun os started H enc _ => spanKeeps_lifted os started H enc)

end Go.Proofs.Ytcpaijajddaidaa
