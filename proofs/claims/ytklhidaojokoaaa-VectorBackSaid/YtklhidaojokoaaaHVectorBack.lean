/- VectorBack answers true on all arguments: Decode inverts Encode, and rejects messages with a changed, missing or additional byte. No conditions. -/
import Derived.Test.YtklhidaojokoaaaVecE
set_option linter.unusedSimpArgs false
set_option linter.unusedVariables false
namespace Go.Proofs.Ytklhidaojokoaaa
open Go Go.Abs Go.RowKit

theorem vectorBack_all (xs : List T) (h : FitAll Try.prog 20 Try.f8.params.toList xs) : ans Try.prog pol 8 xs = some (.sc (.bool true)) := by
  have hp : Try.f8.params.toList = [25, 5, 5, 5] := by kernel_rfl
  rw [hp] at h
  obtain ⟨x0, r0, rfl, f0, h⟩ := fitAll_cons h
  obtain ⟨x1, r1, rfl, f1, h⟩ := fitAll_cons h
  obtain ⟨x2, r2, rfl, f2, h⟩ := fitAll_cons h
  obtain ⟨x3, r3, rfl, f3, h⟩ := fitAll_cons h
  obtain rfl := fitAll_nil h
  obtain ⟨c0, rfl, g0⟩ := fit_agg (ls := [.int .i64, .int .i64, .int .i64, .int .i64, .int .i64, .int .i64]) (by kernel_rfl) (by kernel_rfl) f0
  obtain ⟨y0_0, q0_0, rfl, v0_0, g0⟩ := leafs_cons g0
  obtain ⟨y0_1, q0_1, rfl, v0_1, g0⟩ := leafs_cons g0
  obtain ⟨y0_2, q0_2, rfl, v0_2, g0⟩ := leafs_cons g0
  obtain ⟨y0_3, q0_3, rfl, v0_3, g0⟩ := leafs_cons g0
  obtain ⟨y0_4, q0_4, rfl, v0_4, g0⟩ := leafs_cons g0
  obtain ⟨y0_5, q0_5, rfl, v0_5, g0⟩ := leafs_cons g0
  obtain rfl := leafs_nil g0
  obtain ⟨n0_0, rfl, w0_0⟩ := v0_0
  obtain ⟨n0_1, rfl, w0_1⟩ := v0_1
  obtain ⟨n0_2, rfl, w0_2⟩ := v0_2
  obtain ⟨n0_3, rfl, w0_3⟩ := v0_3
  obtain ⟨n0_4, rfl, w0_4⟩ := v0_4
  obtain ⟨n0_5, rfl, w0_5⟩ := v0_5
  obtain ⟨n1, rfl, w1⟩ := fit_leaf (l := .int .u8) (by kernel_rfl) (by kernel_rfl) f1
  obtain ⟨n2, rfl, w2⟩ := fit_leaf (l := .int .u8) (by kernel_rfl) (by kernel_rfl) f2
  obtain ⟨n3, rfl, w3⟩ := fit_leaf (l := .int .u8) (by kernel_rfl) (by kernel_rfl) f3
  exact vectorBack_ans n0_0 n0_1 n0_2 n0_3 n0_4 n0_5 n1 n2 n3 (wf_u8 w1) (wf_u8 w2) (wf_u8 w3)

set_option maxRecDepth 100000 in
theorem vectorBack_lifted (os : Os) (started : os.Started) (H : Type) (enc : TypeId × Value → H) :
    ReturnsInHanded {} Try.checked os 8 .any (Rows.vectorBackSpec.pre6 enc Try.prog Try.f8 Rows.vectorBackRow.domain false) (Rows.vectorBackSpec.post enc Try.prog Try.f8 false true false false) := by
  refine returnsInHanded_of_change (C := Try.checked) own started (by kernel_rfl) Try.func8
    (ChangeSpec.witness6 (enc := enc) (C := Try.checked) false ⟨#[], #[.agg #[.int .i64 0, .int .i64 0, .int .i64 0, .int .i64 0, .int .i64 0, .int .i64 0], .int .u8 0, .int .u8 0, .int .u8 0], []⟩ 8 (by kernel_rfl) (by kernel_rfl) (by kernel_rfl) (by kernel_rfl)) ?_
  intro W base args ds gs before hval hW _ _
  refine law_calls (P := Try.prog) (d := 20) sound (fun _ => rfl) laidOut (by kernel_rfl) (tb := 4) (by kernel_rfl) (by kernel_rfl) rfl (fun ds hds => ?_) vectorBack_all hval hW
  have hn : Try.f8.params.size = 4 := by kernel_rfl
  rw [hn] at hds
  match ds, hds with
  | [d0, d1, d2, d3], _ => rfl

theorem vectorBack_holds : Rows.VectorBackSaid :=
  OpenClaim.holds_of_wide 8 Try.f8 rfl rfl rfl rfl rfl rfl rfl ⟨rfl, rfl, rfl, rfl, rfl⟩ rfl rfl rfl rfl rfl (by kernel_rfl) Try.func8 (by kernel_rfl)
    (of_decide_eq_true (by kernel_rfl)) (by unfold Func.isWrapper; first | (rw [if_pos (by decide +kernel)]; kernel_rfl) | (rw [if_neg (by decide +kernel)]; exact ⟨rfl, rfl⟩))
    (fun os started H enc _ => vectorBack_lifted os started H enc)

end Go.Proofs.Ytklhidaojokoaaa
