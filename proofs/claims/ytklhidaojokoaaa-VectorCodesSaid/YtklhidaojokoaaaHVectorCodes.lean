/- VectorCodes answers true on all arguments: Encode and Decode agree with the reference for every message and byte string. No conditions. -/
import Derived.Test.YtklhidaojokoaaaVecD
set_option linter.unusedSimpArgs false
set_option linter.unusedVariables false
namespace Go.Proofs.Ytklhidaojokoaaa
open Go Go.Abs Go.RowKit

theorem vectorCodes_all (xs : List T) (h : FitAll Try.prog 20 Try.f5.params.toList xs) : ans Try.prog pol 5 xs = some (.sc (.bool true)) := by
  have hp : Try.f5.params.toList = [28, 41] := by kernel_rfl
  rw [hp] at h
  obtain ⟨x0, r0, rfl, f0, h⟩ := fitAll_cons h
  obtain ⟨x1, r1, rfl, f1, h⟩ := fitAll_cons h
  obtain rfl := fitAll_nil h
  obtain ⟨c0, rfl, g0⟩ := fit_agg (ls := [.int .i64, .int .i64, .int .i64, .int .i64, .int .i64, .int .i64, .int .i64]) (by kernel_rfl) (by kernel_rfl) f0
  obtain ⟨y0_0, q0_0, rfl, v0_0, g0⟩ := leafs_cons g0
  obtain ⟨y0_1, q0_1, rfl, v0_1, g0⟩ := leafs_cons g0
  obtain ⟨y0_2, q0_2, rfl, v0_2, g0⟩ := leafs_cons g0
  obtain ⟨y0_3, q0_3, rfl, v0_3, g0⟩ := leafs_cons g0
  obtain ⟨y0_4, q0_4, rfl, v0_4, g0⟩ := leafs_cons g0
  obtain ⟨y0_5, q0_5, rfl, v0_5, g0⟩ := leafs_cons g0
  obtain ⟨y0_6, q0_6, rfl, v0_6, g0⟩ := leafs_cons g0
  obtain rfl := leafs_nil g0
  obtain ⟨n0_0, rfl, w0_0⟩ := v0_0
  obtain ⟨n0_1, rfl, w0_1⟩ := v0_1
  obtain ⟨n0_2, rfl, w0_2⟩ := v0_2
  obtain ⟨n0_3, rfl, w0_3⟩ := v0_3
  obtain ⟨n0_4, rfl, w0_4⟩ := v0_4
  obtain ⟨n0_5, rfl, w0_5⟩ := v0_5
  obtain ⟨n0_6, rfl, w0_6⟩ := v0_6
  obtain ⟨l1, rfl, k1, e1⟩ := fit_leaf (l := .sl 1 5) (by kernel_rfl) (by kernel_rfl) f1
  exact vectorCodes_fit n0_0 n0_1 n0_2 n0_3 n0_4 n0_5 n0_6 e1

set_option maxRecDepth 100000 in
theorem vectorCodes_lifted (os : Os) (started : os.Started) (H : Type) (enc : TypeId × Value → H) :
    ReturnsInHanded {} Try.checked os 5 .any (Rows.vectorCodesSpec.pre6 enc Try.prog Try.f5 Rows.vectorCodesRow.domain false) (Rows.vectorCodesSpec.post enc Try.prog Try.f5 false true false false) := by
  refine returnsInHanded_of_change (C := Try.checked) own started (by kernel_rfl) Try.func5
    (ChangeSpec.witness6 (enc := enc) (C := Try.checked) false ⟨#[], #[.agg #[.int .i64 0, .int .i64 0, .int .i64 0, .int .i64 0, .int .i64 0, .int .i64 0, .int .i64 0], .slice none 0 0], []⟩ 8 (by kernel_rfl) (by kernel_rfl) (by kernel_rfl) (by kernel_rfl)) ?_
  intro W base args ds gs before hval hW _ _
  refine law_calls (P := Try.prog) (d := 20) sound (fun _ => rfl) laidOut (by kernel_rfl) (tb := 4) (by kernel_rfl) (by kernel_rfl) rfl (fun ds hds => ?_) vectorCodes_all hval hW
  have hn : Try.f5.params.size = 2 := by kernel_rfl
  rw [hn] at hds
  match ds, hds with
  | [d0, d1], _ => rfl

theorem vectorCodes_holds : Rows.VectorCodesSaid :=
  OpenClaim.holds_of_wide 5 Try.f5 rfl rfl rfl rfl rfl rfl rfl ⟨rfl, rfl, rfl, rfl, rfl⟩ rfl rfl rfl rfl rfl (by kernel_rfl) Try.func5 (by kernel_rfl)
    (of_decide_eq_true (by kernel_rfl)) (by unfold Func.isWrapper; first | (rw [if_pos (by decide +kernel)]; kernel_rfl) | (rw [if_neg (by decide +kernel)]; exact ⟨rfl, rfl⟩))
    (fun os started H enc _ => vectorCodes_lifted os started H enc)

end Go.Proofs.Ytklhidaojokoaaa
